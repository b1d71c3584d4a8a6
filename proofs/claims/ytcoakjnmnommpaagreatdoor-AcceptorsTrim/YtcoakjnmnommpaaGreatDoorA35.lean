import Derived.Test.YtcoakjnmnommpaaGreatDoorA34
import Derived.Test.YtcoakjnmnommpaaGreatDoorAR3
import Derived.Test.YtcoakjnmnommpaaGreatDoorA32
namespace Go.Proofs
open Go Go.V
set_option linter.unusedVariables false
set_option linter.unusedSimpArgs false
set_option maxHeartbeats 0
theorem zdA9 {n0 m : Nat} (s : Nat → AV) (B0 B1 J1 R J2 OUT : Blk) (A n : Nat) : Weak n0 (Lst m s) (B0 :: B1 :: J1 :: R :: J2 :: (wd0 1 27 (fun _ => nils A) n ++ [OUT])) (Lst m s) (B0 :: B1 :: J1 :: R :: J2 :: LO (fun _ _ => none) (fun _ _ => []) A n OUT) := by
 have h := vaa9 (n0 := n0) (n := m) s [B0, B1, J1, R, J2] [OUT] n A 1 1 27 3 (p := n + 6) (by simp; omega) (n * A) (Nat.le_refl _)
 have e : wd0 1 27 (xG0 (n + 6) A (n * A)) n = wd0 1 27 (rowO (fun _ _ => none) (fun _ _ => []) A n) n := kr0 fun s hs => kcr9 hs
 rw [e] at h
 exact h
section
variable {K : Nat → Nat → Option Nat} {G G' : Nat → Nat → List Nat} {A n : Nat} {OUT : Blk}
theorem kcE9 (h : ∀ s a, s < n → a < A → G s a = G' s a) : LO K G A n OUT = LO K G' A n OUT := by
 rw [LO, LO]
 have e1 : wd0 1 27 (rowO K G A n) n = wd0 1 27 (rowO K G' A n) n := kr0 fun s hs => by
  rw [rowO, rowO]
  exact xe0 fun a ha => by rw [h s a hs ha]
 have e2 : wd0 1 3 (lstO G A) (n * A) = wd0 1 3 (lstO G' A) (n * A) := kr0 fun q hq => by
  have hA : 0 < A := Nat.pos_of_ne_zero fun e => by subst e; simp at hq
  rw [lstO, lstO, h _ _ ((Nat.div_lt_iff_lt_mul hA).2 hq) (Nat.mod_lt _ hA)]
 rw [e1, e2]
theorem qcF9 {s : Nat} (hs : s < n) : (LO K G A n OUT)[s]? = some (.row 1 27 (rowO K G A n s)) := by
 have := xcE9 (K := K) (G := G) (A := A) (OUT := OUT) hs []; rwa [List.append_nil] at this
theorem xdA9 : (LO K G A n OUT)[n]? = some OUT := by
 have := qdR9 (K := K) (G := G) (A := A) (n := n) (OUT := OUT) []; rwa [List.append_nil] at this
theorem wdA9 {s a : Nat} (hs : s < n) (ha : a < A) : (LO K G A n OUT)[s * A + a + n + 1]? = some (.row 1 3 (ints (intN (G s a)))) := by
 have := wcE9 (K := K) (G := G) (OUT := OUT) hs ha []; rwa [List.append_nil] at this
theorem qeg9 {s a : Nat} (hs : s < n) (ha : a < A) (Y : Blk) : ((LO K G A n OUT).set (s * A + a + n + 1) Y)[s * A + a + n + 1]? = some Y := by
 rw [List.getElem?_set_self]
 rw [zcE9]
 have := q_lt hs ha; omega
theorem xdR9 {s a : Nat} (hs : s < n) (ha : a < A) (Y : Blk) : ((LO K G A n OUT).set (s * A + a + n + 1) Y)[s]? = some (.row 1 27 (rowO K G A n s)) := by
 rw [List.getElem?_set_ne (by omega), qcF9 hs]
theorem wdR9 {s a v : Nat} (hs : s < n) (ha : a < A) (c : AV) (hc : c = .own (s * A + a + n + 6) ((G s a).length + 1) ((G s a).length + 1) (K s a)) : ((LO K G A n OUT).set (s * A + a + n + 1) (.row 1 3 (ints (intN (G s a)) ++ [[.int .i64 (v : Int)]]))).set s (.row 1 27 ((rowO K G A n s).set a [c])) = LO K (upd2 G s a (G s a ++ [v])) A n OUT := by
 subst hc
 have e : s * A + a + n + 1 = n + (s * A + a + 1) := by omega
 have hA : 0 < A := by omega
 rw [xm0]
 rw [LO, e, List.set_append_right _ _ (by rw [rf_len]; omega), rf_len, Nat.add_sub_cancel_left, List.set_cons_succ, vdg9, zaX9 _ _ hs, LO]
 congr 1
 ·refine kr0 fun s' _ => ?_
  unfold updF
  by_cases e2 : s' = s
  ·subst e2
   rw [if_pos rfl, rowO, zG0, rowO]
   refine xe0 fun a' _ => ?_
   unfold updF upd2
   by_cases e3 : a' = a
   ·subst e3; simp
   ·simp [e3]
  ·rw [if_neg e2, rowO, rowO]
   refine xe0 fun a' _ => ?_
   simp [upd2, e2]
 ·congr 1
  refine kr0 fun q hq => ?_
  unfold updF
  by_cases e2 : q = s * A + a
  ·subst e2
   rw [if_pos rfl, lstO, vdQ9 ha, kdQ9 ha, upd2, if_pos ⟨rfl, rfl⟩, zn0]
  ·rw [if_neg e2, lstO, lstO, upd2, if_neg]
   rintro ⟨h1, h2⟩
   exact e2 (by rw [← h1, ← h2, Nat.mul_comm]; exact (Nat.div_add_mod q A).symm)
end
def revB (l : List RC) (s a k t a' : Nat) : Bool := if a' < a then (lstC l s a').1.contains (t : Int) else if a' = a then ((lstC l s a).1.take k).contains (t : Int) else false
def revP (l : List RC) (s a k t a' : Nat) : List Nat := ((List.range s).filter fun s' => (lstC l s' a').1.contains (t : Int)) ++ (if revB l s a k t a' = true then [s] else [])
def revG (l : List RC) (t a : Nat) : List Nat := (List.range l.length).filter fun s' => (lstC l s' a).1.contains (t : Int)
theorem qda9 (l : List RC) (s a k t a' : Nat) : (revP l s a k t a').length ≤ s + 1 := by
 have := List.length_filter_le (fun s' => (lstC l s' a').1.contains (t : Int)) (List.range s)
 rw [List.length_range] at this
 rw [revP, List.length_append]
 split
 ·rw [List.length_singleton]; omega
 ·rw [List.length_nil]; omega
theorem vdR9 (l : List RC) : revP l 0 0 0 = fun _ _ => [] := by
 funext t a
 simp [revP, revB]
theorem kdR9 {n : Int} {l : List RC} {s a k t : Nat} (hr : zf0 (lstC l s a).1 n = true) (hk : k < (lstC l s a).1.length) (ht : (lstC l s a).1.getD k 0 = (t : Int)) : upd2 (revP l s a k) t a (revP l s a k t a ++ [s]) = revP l s a (k + 1) := by
 have hget : (lstC l s a).1[k]? = some (t : Int) := by
  rw [List.getD_eq_getElem?_getD, List.getElem?_eq_getElem hk, Option.getD_some] at ht
  rw [List.getElem?_eq_getElem hk, ht]
 have htk : (lstC l s a).1.take (k + 1) = (lstC l s a).1.take k ++ [(t : Int)] := by rw [List.take_add_one, hget]; rfl
 have hnot : ((lstC l s a).1.take k).contains (t : Int) = false := by
  rw [Bool.eq_false_iff, Ne, List.contains_iff_mem]
  intro h
  have hs := vam9 hr
  rw [← List.take_append_drop (k + 1) (lstC l s a).1, htk, List.append_assoc, List.pairwise_append] at hs
  have := hs.2.2 (t : Int) h (t : Int) (by simp)
  omega
 funext t' a'
 unfold upd2
 by_cases h : t' = t ∧ a' = a
 ·obtain ⟨rfl, rfl⟩ := h
  rw [if_pos ⟨rfl, rfl⟩, revP, revP]
  unfold revB
  rw [if_neg (Nat.lt_irrefl _), if_pos rfl, if_neg (Nat.lt_irrefl _), if_pos rfl, hnot, htk]
  simp
 ·rw [if_neg h, revP, revP]
  congr 1
  have : revB l s a (k + 1) t' a' = revB l s a k t' a' := by
   unfold revB
   by_cases h1 : a' < a
   ·rw [if_pos h1, if_pos h1]
   ·rw [if_neg h1, if_neg h1]
    by_cases h2 : a' = a
    ·rw [if_pos h2, if_pos h2, htk]
     have h3 : t' ≠ t := fun e => h ⟨e, h2⟩
     have h4 : ¬ ((t' : Int) = (t : Int)) := by omega
     rw [Bool.eq_iff_iff]
     simp [List.contains_iff_mem, h4]
    ·rw [if_neg h2, if_neg h2]
  rw [this]
theorem qdS9 (l : List RC) (s a : Nat) : revP l s a (lstC l s a).1.length = revP l s (a + 1) 0 := by
 funext t a'
 rw [revP, revP]
 have : revB l s a (lstC l s a).1.length t a' = revB l s (a + 1) 0 t a' := by
  unfold revB
  rw [List.take_length]
  by_cases h1 : a' < a
  ·rw [if_pos h1, if_pos (by omega)]
  ·rw [if_neg h1]
   by_cases h2 : a' = a
   ·rw [if_pos h2, if_pos (by omega), h2]
   ·rw [if_neg h2, if_neg (by omega)]
    split <;> simp
 rw [this]
theorem zdS9 (l : List RC) (s A t a' : Nat) (ha : a' < A) : revP l s A 0 t a' = revP l (s + 1) 0 0 t a' := by
 rw [revP, revP, List.range_succ, List.filter_append]
 unfold revB
 rw [if_pos ha, if_neg (Nat.not_lt_zero _)]
 simp [List.filter_cons]
theorem zda9 (l : List RC) : revP l l.length 0 0 = revG l := by
 funext t a
 simp [revP, revB, revG]
theorem xas9 (l : List RC) (t a : Nat) : (revG l t a).length ≤ l.length := by
 have := List.length_filter_le (fun s' => (lstC l s' a).1.contains (t : Int)) (List.range l.length)
 rw [List.length_range] at this
 exact this
def xh0 (A : Nat) (l : List RC) : List RC := (List.range l.length).map fun t => ((List.range A).map fun a => (intN (revG l t a), some (revG l t a).length), some A)
theorem wi0 (A : Nat) (l : List RC) : (xh0 A l).length = l.length := by simp [xh0]
theorem close_own {H : List Blk} {d b n z : Nat} {t : TypeId} {c : Option Nat} {es : List (List AV)} (hb : H[b]? = some (.row z t es)) (hn : es.length = n) : qi0 H (d + 1) (.own b n n c) = .sl z (es.map fun e => e.map (qi0 H d)) c := by
 simp only [qi0, hb]
 rw [List.take_of_length_le (by omega)]
theorem ok_own {H : List Blk} {d b n z : Nat} {t : TypeId} {c : Option Nat} {es : List (List AV)} (hb : H[b]? = some (.row z t es)) (hn : es.length = n) (h : ∀ e ∈ es, ∀ x ∈ e, okC H d x = true) : okC H (d + 1) (.own b n n c) = true := by
 subst hn
 simp only [okC, kj0, shOf, hb, beq_self_eq_true, Bool.true_and, List.take_length]
 rw [List.all_eq_true]
 intro e he
 rw [List.all_eq_true]
 exact h e he
section
variable {G : Nat → Nat → List Nat} {A n : Nat} {OUT B0 B1 J1 J2 : Blk} {T : List Blk}
def HO (B0 B1 J1 J2 : Blk) (G : Nat → Nat → List Nat) (A n : Nat) (OUT : Blk) (T : List Blk) : List Blk := B0 :: B1 :: J1 :: .row 1 44 (ownR 5 A (some A) n) :: J2 :: (LO (fun s a => some (G s a).length) G A n OUT ++ T)
def clG (G : Nat → Nat → List Nat) (A n : Nat) : List RC := (List.range n).map fun t => ((List.range A).map fun a => (intN (G t a), some (G t a).length), some A)
theorem xda9 : ((ownR 5 A (some A) n).all fun e => e.all (okC (HO B0 B1 J1 J2 G A n OUT T) 2)) = true ∧ ((ownR 5 A (some A) n).map fun e => e.map (qi0 (HO B0 B1 J1 J2 G A n OUT T) 2)) = xc0 (clG G A n) := by
 have h1 : ∀ s a, s < n → a < A → (HO B0 B1 J1 J2 G A n OUT T)[s * A + a + n + 6]? = some (.row 1 3 (ints (intN (G s a)))) := fun s a hs ha => by
  have := wcE9 (K := fun s a => some (G s a).length) (G := G) (OUT := OUT) hs ha T
  simpa [HO] using this
 have h2 : ∀ s, s < n → (HO B0 B1 J1 J2 G A n OUT T)[s + 5]? = some (.row 1 27 (rowO (fun s a => some (G s a).length) G A n s)) := fun s hs => by
  have := xcE9 (K := fun s a => some (G s a).length) (G := G) (A := A) (OUT := OUT) hs T
  simpa [HO] using this
 have h3 : (HO B0 B1 J1 J2 G A n OUT T)[3]? = some (.row 1 44 (ownR 5 A (some A) n)) := rfl
 have hl : ∀ s a, (ints (intN (G s a))).length = (G s a).length := fun s a => by rw [ka0, zb0]
 have c0 : ∀ es : List (List AV), (es.map fun e => e.map (qi0 (HO B0 B1 J1 J2 G A n OUT T) 0)) = es := fun es => by
  have h0 : qi0 (HO B0 B1 J1 J2 G A n OUT T) 0 = id := by funext v; simp [qi0]
  simp [h0]
 have k1 : ∀ s a, s < n → a < A → okC (HO B0 B1 J1 J2 G A n OUT T) 1 (.own (s * A + a + n + 6) (G s a).length (G s a).length (some (G s a).length)) = true ∧ qi0 (HO B0 B1 J1 J2 G A n OUT T) 1 (.own (s * A + a + n + 6) (G s a).length (G s a).length (some (G s a).length)) = .sl 1 (ints (intN (G s a))) (some (G s a).length) := fun s a hs ha => by
  refine ⟨ok_own (h1 s a hs ha) (hl s a) ?_, ?_⟩
  ·intro e he x hx
   simp only [ints, List.mem_map] at he
   obtain ⟨y, _, rfl⟩ := he
   rw [List.mem_singleton] at hx
   subst hx
   rfl
  ·rw [close_own (h1 s a hs ha) (hl s a), c0]
 have k2 : ∀ s, s < n → okC (HO B0 B1 J1 J2 G A n OUT T) 2 (.own (s + 5) A A (some A)) = true ∧ qi0 (HO B0 B1 J1 J2 G A n OUT T) 2 (.own (s + 5) A A (some A)) = .sl 1 (rowL ((List.range A).map fun a => (intN (G s a), some (G s a).length))) (some A) := fun s hs => by
  refine ⟨ok_own (h2 s hs) (zas9 s) ?_, ?_⟩
  ·intro e he x hx
   simp only [rowO, zj0, List.mem_map, List.mem_range] at he
   obtain ⟨a, ha, rfl⟩ := he
   rw [List.mem_singleton] at hx
   subst hx
   exact (k1 s a hs ha).1
  ·rw [close_own (h2 s hs) (zas9 s)]
   congr 1
   rw [rowO, zj0, List.map_map, rowL, List.map_map]
   refine List.map_congr_left fun a ha => ?_
   have := (k1 s a hs (List.mem_range.1 ha)).2
   simp only [Function.comp, List.map_cons, List.map_nil, this, lC]
 refine ⟨?_, ?_⟩
 ·rw [List.all_eq_true]
  intro e he
  rw [List.all_eq_true]
  intro x hx
  simp only [ownR, List.mem_map, List.mem_range] at he
  obtain ⟨s, hs, rfl⟩ := he
  rw [List.mem_singleton] at hx
  subst hx
  exact (k2 s hs).1
 ·rw [ownR, List.map_map, xc0, clG, List.map_map]
  refine List.map_congr_left fun s hs => ?_
  have := (k2 s (List.mem_range.1 hs)).2
  simp only [Function.comp, List.map_cons, List.map_nil, this, rC]
end
theorem vdA9 (A : Nat) (l : List RC) : clG (revG l) A l.length = xh0 A l := rfl
end Go.Proofs
