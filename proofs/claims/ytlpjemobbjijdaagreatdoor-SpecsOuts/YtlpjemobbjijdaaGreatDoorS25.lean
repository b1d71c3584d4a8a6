import Derived.Test.YtlpjemobbjijdaaGreatDoorS24
namespace Go.Proofs
open Go Go.V
set_option linter.unusedVariables false
set_option linter.unusedSimpArgs false
set_option maxHeartbeats 0
set_option maxRecDepth 100000
theorem qN0 (p : Int → Bool) (g : FuncId) (cap : List AV) (z : Nat) (l : List Int) (c : Option Nat) (H : List Blk) (hz : l = [] ∨ z = 1) (hent : za0 Tryz.prog g = true) (hp : ∀ x, va0 Tryz.prog G0 g (.int .i64 x :: cap) H (.bool (p x)) H) (hx : l.length ≤ 1000000) :
  va0 Tryz.prog G0 95 [.sl z (ints l) c, .fn g cap] H (.int .i64 (idxL p l)) H := by
 refine ql0 19 [.tmp 4] Tryz.func95 rfl rfl rfl (by simp) ?_
 intro s ⟨a0, a1, hz⟩
 simp only [Nat.zero_add, Nat.reduceAdd] at a1
 clear hz
 repeat' (first|refine nav ?_|(refine g0_ ?_; refine goD ?_)|(with_reducible refine gG ?_ ?_)|((with_reducible refine And.intro (fun h => ?_) (fun h => ?_)) <;> try (exfalso; omega))|(with_reducible refine andG ?_)|fail|simp (disch := (first|exact discB|fail)) only [push_cast, simprocAttr, a0, a1])
 refine go_loop rfl (fun mz s' H' => ∃ k : Nat, k ≤ l.length ∧ mz = l.length - k ∧ H' = H ∧ s' 0 = .sl z (ints l) c ∧ s' 1 = .fn g cap ∧ s' 7 = .int .i64 l.length ∧ s' 8 = .int .i64 k ∧ ∀ j, j < k → p (l.getD j 0) = false) (m := l.length) (by first|exact kb0|fail) (Weak.refl _ _) ⟨0, by omega, by omega, rfl, ?_⟩ ?_
 ·simp (disch := (first|exact discB|fail)) only [push_cast, simprocAttr, a0, a1]
  all_goals exact fun j hj => by omega
 ·rintro mz s' H' ⟨k, hk, rfl, rfl, b0, b1, b7, b8, ik⟩
  rcases Nat.lt_or_ge k l.length with hlt|hge
  ·obtain rfl := hz.resolve_left (by intro h; rw [h] at hlt; simp at hlt)
   have e1 := kr0 l k hlt
   have hP := hp (l.getD k 0)
   have hn := wA0 p 0 l k ik hlt
   have hs := fun h => qar9 ik (show p (l.getD k 0) = false from h)
   generalize l.getD k 0 = x at *
   repeat' (first|refine nav ?_|(refine g0_ ?_; refine goD ?_)|(with_reducible refine gG ?_ ?_)|((with_reducible refine And.intro (fun h => ?_) (fun h => ?_)) <;> try (exfalso; omega))|(with_reducible refine andG ?_)|(first|(refine ⟨_, _, hP, ?_⟩)|(refine ⟨_, hP, ?_⟩)|(refine ⟨_, fun _ => hP, ?_⟩))|simp (disch := (first|exact discB|fail)) only [push_cast, simprocAttr, b0, b1, b7, b8, e1, hent])
   ·rw [hn h]
   ·refine wb0 (l.length - (k + 1)) (by omega) (by first|exact kb0|fail) ⟨k + 1, by omega, rfl, rfl, ?_⟩
    simp (disch := (first|exact discB|fail)) only [push_cast, simprocAttr, b0, b1, b7, b8, e1, hent]
    exact hs h
  ·obtain rfl : k = l.length := by omega
   repeat' (first|refine nav ?_|(refine g0_ ?_; refine goD ?_)|(with_reducible refine gG ?_ ?_)|((with_reducible refine And.intro (fun h => ?_) (fun h => ?_)) <;> try (exfalso; omega))|(with_reducible refine andG ?_)|(first|(refine ⟨_, _, hP, ?_⟩)|(refine ⟨_, hP, ?_⟩)|(refine ⟨_, fun _ => hP, ?_⟩))|simp (disch := (first|exact discB|fail)) only [push_cast, simprocAttr, b0, b1, b7, b8])
   rw [xaD9 p 0 l ik]
theorem vJ0 (p : Int → Bool) (g : FuncId) (cap : List AV) (z : Nat) (l : List Int) (c : Option Nat) (H : List Blk) (hz : l = [] ∨ z = 1) (hent : za0 Tryz.prog g = true) (hp : ∀ x, va0 Tryz.prog G0 g (.int .i64 x :: cap) H (.bool (p x)) H) (hx : l.length ≤ 1000000) :
  va0 Tryz.prog G0 59 [.sl z (ints l) c, .fn g cap] H (.bool (l.any p)) H := by
 refine ql0 9 [.tmp 4] Tryz.func59 rfl rfl rfl (by simp) ?_
 intro s ⟨a0, a1, hz⟩
 simp only [Nat.zero_add, Nat.reduceAdd] at a1
 clear hz
 repeat' (first|refine nav ?_|(refine g0_ ?_; refine goD ?_)|(with_reducible refine gG ?_ ?_)|((with_reducible refine And.intro (fun h => ?_) (fun h => ?_)) <;> try (exfalso; omega))|(with_reducible refine andG ?_)|(first|(refine ⟨_, _, qN0 p g cap z l c H hz hent hp hx, ?_⟩)|(refine ⟨_, qN0 p g cap z l c H hz hent hp hx, ?_⟩)|(refine ⟨_, fun _ => qN0 p g cap z l c H hz hent hp hx, ?_⟩))|simp (disch := (first|exact discB|fail)) only [push_cast, simprocAttr, a0, a1])
 exact congrArg AV.bool (wae9 p l)
def badI (n x : Int) : Bool := decide (x < 0) || decide (n ≤ x)
theorem kcM9 (x n : Int) (b : Nat) (H : List Blk) (hb : H[b]? = some (.row 1 3 [[.int .i64 n]])) : va0 Tryz.prog G0 94 [.int .i64 x, .ptr b 0 0 1] H (.bool (badI n x)) H := by
 refine ql0 11 [.tmp 3] Tryz.func94 rfl rfl rfl (by simp) ?_
 intro s ⟨a0, a1, hz⟩
 simp only [Nat.zero_add, Nat.reduceAdd] at a1
 clear hz
 repeat' (first|refine nav ?_|(refine g0_ ?_; refine goD ?_)|(with_reducible refine gG ?_ ?_)|((with_reducible refine And.intro (fun h => ?_) (fun h => ?_)) <;> try (exfalso; omega))|(with_reducible refine andG ?_)|fail|simp (disch := (first|exact discB|fail)) only [push_cast, simprocAttr, a0, a1, hb])
 all_goals rfl
def xl0 (xs : List Int) (n : Int) : Int := if 16 < n ∨ 256 < xs.length then 3 else if n < 1 ∨ xs.any (badI n) = true then 1 else 0
theorem qcN9 (z : Nat) (xs : List Int) (c : Option Nat) (n : Int) (hz : xs = [] ∨ z = 1) (hx : xs.length ≤ 1000000) : PC Tryz.prog G0 57 [.sl z (ints xs) c, .int .i64 n] (.int .i64 (xl0 xs n)) := by
 have hcf := vJ0 (badI n) 94 [.ptr 0 0 0 1] z xs c [.row 1 3 [[.int .i64 n]]] hz (by kernel_rfl) (fun x => kcM9 x n 0 _ rfl) hx
 refine qd0 0 19 [.tmp 4] Tryz.func57 rfl rfl rfl (by simp) ?_
 intro s ⟨a0, a1, hz⟩
 simp only [Nat.zero_add, Nat.reduceAdd] at a1
 clear hz
 repeat' (first|refine nav ?_|(refine g0_ ?_; refine goD ?_)|(with_reducible refine gG ?_ ?_)|((with_reducible refine And.intro (fun h => ?_) (fun h => ?_)) <;> try (exfalso; omega))|(with_reducible refine andG ?_)|(first|(refine ⟨_, _, hcf, ?_⟩)|(refine ⟨_, hcf, ?_⟩)|(refine ⟨_, fun _ => hcf, ?_⟩))|simp (disch := (first|exact discB|fail)) only [push_cast, simprocAttr, a0, a1, en94])
 ·rw [xl0, if_pos (by omega)]
 ·rename_i h1
  rw [xl0, if_neg (by omega), if_pos (by rcases h with h|h; exact .inl h; exact .inr h)]
 ·rename_i h1
  rw [xl0, if_neg (by omega), if_neg (by rintro (q|q); omega; rw [h.2] at q; cases q)]
def zN0 (l : List Bs) (k : Nat) : List (List AV) := strs (l.take k ++ List.replicate (l.length - k) [])
theorem wbx9 (l : List Bs) : zN0 l 0 = List.replicate l.length [.str []] := by simp [zN0, strs]
theorem xbU9 (l : List Bs) : zN0 l l.length = strs l := by simp [zN0]
theorem wbU9 (l : List Bs) (k : Nat) (h : k ≤ l.length) : (zN0 l k).length = l.length := by simp [zN0, strs]; omega
theorem vbU9 (l : List Bs) (k : Nat) (h : k < l.length) : (zN0 l k).getD k [] = [.str []] := by
 have e1 : (l.take k).length = k := by simp; omega
 rw [zN0, show l.length - k = (l.length - (k + 1)) + 1 by omega, List.replicate_succ]
 simp only [strs, List.map_append, List.map_cons]
 rw [List.getD_eq_getElem?_getD, List.getElem?_append_right (by simp; omega), List.length_map, e1, Nat.sub_self]; rfl
theorem kbU9 (l : List Bs) (k : Nat) (h : k < l.length) : (zN0 l k).set k [.str (l.getD k [])] = zN0 l (k + 1) := by
 have e1 : (l.take k).length = k := by simp; omega
 have e2 := vY0 l k h
 rw [zN0, zN0, e2, show l.length - k = (l.length - (k + 1)) + 1 by omega, List.replicate_succ]
 simp only [strs, List.map_append, List.map_cons, List.map_nil, List.append_assoc, List.singleton_append]
 rw [List.set_append_right _ _ (by simp; omega), List.length_map, e1, Nat.sub_self]; rfl
def nmI (names : List Bs) (i : Int) : Bs := if i = -1 then [33] else names.getD i.toNat []
def zx0 (l : List Int) (names : List Bs) : Bs := if l = [] then [45] else Lib.join (l.map (nmI names)) [32]
theorem qbV9 (z : Nat) (l : List Int) (c : Option Nat) (names : List Bs) (cn : Option Nat) (hz : l = [] ∨ z = 1) (hl : l.length ≤ 1000000) (hn : names.length ≤ 1000000) (hi : ∀ i ∈ l, i = -1 ∨ (0 ≤ i ∧ i < names.length)) (hs : ∀ s ∈ names, s.length ≤ 16) : PC Tryz.prog G0 58 [.sl z (ints l) c, .sl 1 (strs names) cn] (.str (zx0 l names)) := by
 have hJ := fun H => xaQ9 H (.own 0 l.length l.length (some l.length)) (l.map (nmI names)) [32]
 unfold zx0
 by_cases hnil : l = []
 ·rw [if_pos hnil]
  subst hnil
  refine qd0 0 36 [.tmp 4] Tryz.func58 rfl rfl rfl (by simp) ?_
  intro s ⟨a0, a1, hz⟩
  simp only [Nat.zero_add, Nat.reduceAdd] at a1
  clear hz
  repeat' (first|refine nav ?_|(refine g0_ ?_; refine goD ?_)|(with_reducible refine gG ?_ ?_)|((with_reducible refine And.intro (fun h => ?_) (fun h => ?_)) <;> try (exfalso; omega))|(with_reducible refine andG ?_)|fail|simp (disch := (first|exact discB|fail)) only [push_cast, simprocAttr, a0, a1])
 ·rw [if_neg hnil]
  have hpos : 0 < l.length := List.length_pos_iff.2 hnil
  obtain rfl := hz.resolve_left hnil
  have hz0 := wbx9 (l.map (nmI names))
  have hml : (l.map (nmI names)).length = l.length := List.length_map ..
  rw [hml] at hz0
  have hil := ke0 l
  have hnl := xb0 names
  have hpos2 : ¬ (l.length : Int) = 0 := by omega
  refine qd0 0 36 [.tmp 4] Tryz.func58 rfl rfl rfl (by simp) ?_
  intro s ⟨a0, a1, hz⟩
  simp only [Nat.zero_add, Nat.reduceAdd] at a1
  clear hz
  repeat' (first|refine nav ?_|(refine g0_ ?_; refine goD ?_)|(with_reducible refine gG ?_ ?_)|((with_reducible refine And.intro (fun h => ?_) (fun h => ?_)) <;> try (exfalso; omega))|(with_reducible refine andG ?_)|fail|simp (disch := (first|exact discB|fail)) only [push_cast, simprocAttr, a0, a1, hil, hpos2])
  rw [← hz0]
  refine go_loop rfl (fun mz s' H' => ∃ k : Nat, k ≤ l.length ∧ mz = l.length - k ∧ H' = [.row 1 9 (zN0 (l.map (nmI names)) k)] ∧ s' 1 = .sl 1 (strs names) cn ∧ s' 5 = .own 0 l.length l.length (some l.length) ∧ s' 14 = .sl 1 (ints l) c ∧ s' 15 = .int .i64 l.length ∧ s' 16 = .int .i64 k) (m := l.length) (by first|exact kb0|fail) (Weak.refl _ _) ⟨0, by omega, by omega, rfl, ?_⟩ ?_
  ·simp (disch := (first|exact discB|fail)) only [push_cast, simprocAttr, a0, a1, hil, hpos2]
  ·rintro mz s' H' ⟨k, hk, rfl, rfl, b1, b5, b14, b15, b16⟩
   rcases Nat.lt_or_ge k l.length with hlt|hge
   ·have e1 := kr0 l k hlt
    have hfg := vbU9 (l.map (nmI names)) k (by omega)
    have hfs := kbU9 (l.map (nmI names)) k (by omega)
    have hfl := wbU9 (l.map (nmI names)) k (by omega)
    rw [hml] at hfl
    have hx : (l.map (nmI names)).getD k [] = nmI names (l.getD k 0) := by simp [hlt]
    rw [hx] at hfs
    have hi1 := hi _ (vl0 0 hlt)
    generalize zN0 (l.map (nmI names)) k = F0 at *
    generalize l.getD k 0 = i at *
    by_cases h1 : i = -1
    ·subst h1
     rw [nmI, if_pos rfl] at hfs
     repeat' (first|refine nav ?_|(refine g0_ ?_; refine goD ?_)|(with_reducible refine gG ?_ ?_)|((with_reducible refine And.intro (fun h => ?_) (fun h => ?_)) <;> try (exfalso; omega))|(with_reducible refine andG ?_)|fail|simp (disch := (first|exact discB|fail)) only [push_cast, simprocAttr, b1, b5, b14, b15, b16, e1, hfg, hfs, hfl, hil])
     refine wb0 (l.length - (k + 1)) (by omega) (by first|exact kb0|fail) ⟨k + 1, by omega, rfl, rfl, ?_⟩
     simp (disch := (first|exact discB|fail)) only [push_cast, simprocAttr, b1, b5, b14, b15, b16, e1, hfg, hfs, hfl, hil]
    ·obtain ⟨q1, q2⟩ := hi1.resolve_left h1
     rw [nmI, if_neg h1] at hfs
     obtain ⟨n, rfl⟩ : ∃ n : Nat, i = n := ⟨i.toNat, by omega⟩
     rw [Int.toNat_natCast] at hfs
     have e2 := wi0 names n (by omega)
     have hfs2 : (F0.set k [.str [33]]).set k [.str (names.getD n [])] = zN0 (l.map (nmI names)) (k + 1) := by rw [List.set_set, hfs]
     have hfg2 : (F0.set k [.str [33]]).getD k [] = [.str [33]] := by rw [List.getD_eq_getElem?_getD, List.getElem?_set_self (by omega)]; rfl
     have hfl2 : (F0.set k [.str [33]]).length = l.length := by rw [List.length_set, hfl]
     generalize names.getD n [] = y at *
     repeat' (first|refine nav ?_|(refine g0_ ?_; refine goD ?_)|(with_reducible refine gG ?_ ?_)|((with_reducible refine And.intro (fun h => ?_) (fun h => ?_)) <;> try (exfalso; omega))|(with_reducible refine andG ?_)|fail|simp (disch := (first|exact discB|fail)) only [push_cast, simprocAttr, b1, b5, b14, b15, b16, e1, e2, hfg, hfs2, hfg2, hfl2, hfl, hil, hnl, h1])
     refine wb0 (l.length - (k + 1)) (by omega) (by first|exact kb0|fail) ⟨k + 1, by omega, rfl, rfl, ?_⟩
     simp (disch := (first|exact discB|fail)) only [push_cast, simprocAttr, b1, b5, b14, b15, b16, e1, e2, hfg, hfs2, hfg2, hfl2, hfl, hil, hnl, h1]
   ·obtain rfl : k = l.length := by omega
    have hfa := xbU9 (l.map (nmI names))
    rw [hml] at hfa
    rw [hfa]
    have hjl := qaf9 16 [32] (l.map (nmI names)) (fun s hs2 => by
     obtain ⟨i, _, rfl⟩ := List.mem_map.1 hs2
     unfold nmI
     split
     ·decide
     ·exact xZ0 hs _)
    rw [hml] at hjl
    have hsl := xb0 (l.map (nmI names))
    rw [hml] at hsl
    have hJ := hJ [.row 1 9 (strs (l.map (nmI names)))] (.inr ⟨0, l.length, some l.length, 9, strs (l.map (nmI names)), by rw [hsl], rfl, by omega, List.take_of_length_le (by omega)⟩) (by simp only [List.length_singleton] at hjl; omega) (by omega)
    repeat' (first|refine nav ?_|(refine g0_ ?_; refine goD ?_)|(with_reducible refine gG ?_ ?_)|((with_reducible refine And.intro (fun h => ?_) (fun h => ?_)) <;> try (exfalso; omega))|(with_reducible refine andG ?_)|(first|(refine ⟨_, _, hJ, ?_⟩)|(refine ⟨_, hJ, ?_⟩)|(refine ⟨_, fun _ => hJ, ?_⟩))|simp (disch := (first|exact discB|fail)) only [push_cast, simprocAttr, b1, b5, b14, b15, b16, hil, hsl])
theorem zbV9 {l : List Int} {n : Int} (h : (l.any (badI n)) = false) : ∀ i ∈ l, 0 ≤ i ∧ i < n := fun i hi => by
 have := List.any_eq_false.1 h i hi
 simp only [badI, Bool.or_eq_true, decide_eq_true_eq, not_or] at this
 omega
def badO (n x : Int) : Bool := decide (x < -1) || decide (n ≤ x)
theorem vbc9 {l : List Int} {n : Int} (h : (l.any (badO n)) = false) : ∀ i ∈ l, i = -1 ∨ (0 ≤ i ∧ i < n) := fun i hi => by
 have := List.any_eq_false.1 h i hi
 simp only [badO, Bool.or_eq_true, decide_eq_true_eq, not_or] at this
 omega
def wtA (x : GS) (l : List Int) : AV := if chkS x = 0 then (if xl0 l x.i = 0 then .tup [.str (zx0 l x.ins), .int .i64 0] else .tup [.str [], .int .i64 (xl0 l x.i)]) else .tup [.str [], .int .i64 (chkS x)]
theorem zax9 (x : GS) (hx : x.Ok) (z : Nat) (l : List Int) (c : Option Nat) (hz : l = [] ∨ z = 1) (hl : l.length ≤ 1000000) : PC Tryz.prog G0 18 [.agg x.A, .sl z (ints l) c] (wtA x l) := by
 have hc := qZ0 x hx
 have hcw := qcN9 z l c x.i hz hl
 have hid := fun p => xab9 p x
 unfold wtA
 by_cases h0 : chkS x = 0
 rotate_left
 ·rw [if_neg h0]
  unfold GS.A at *
  generalize chkS x = m at *
  refine qd0 0 25 [.tmp 4, .tmp 5] Tryz.func18 rfl rfl rfl (by simp) ?_
  intro s ⟨a0, a1, hz⟩
  simp only [Nat.zero_add, Nat.reduceAdd] at a1
  clear hz
  repeat' (first|refine nav ?_|(refine g0_ ?_; refine goD ?_)|(with_reducible refine gG ?_ ?_)|((with_reducible refine And.intro (fun h => ?_) (fun h => ?_)) <;> try (exfalso; omega))|(with_reducible refine andG ?_)|(first|(refine ⟨_, _, qa0 (hc) (by (simp [idsL, idsE, AV.ids, hid])) _, ?_⟩)|(refine ⟨_, qa0 (hc) (by (simp [idsL, idsE, AV.ids, hid])) _, ?_⟩)|(refine ⟨_, fun _ => qa0 (hc) (by (simp [idsL, idsE, AV.ids, hid])) _, ?_⟩))|simp (disch := (first|exact discB|fail)) only [push_cast, simprocAttr, a0, a1])
 ·rw [if_pos h0]
  rw [h0] at hc
  have hv := chkS_zero.1 h0
  obtain ⟨l1, l2, l3, l4, l5, l6⟩ := hv.cnts
  obtain ⟨n1, n2, n3, n4⟩ := hv.len
  have hz1 : x.zi = 1 := hx.i.resolve_left (by intro e; rw [e] at l4; simp at l4)
  by_cases hw : xl0 l x.i = 0
  ·rw [if_pos hw]
   rw [hw] at hcw
   have hN := qbV9 z l c x.ins x.ci hz hl (by omega) (fun i hi => by
    unfold xl0 at hw
    split at hw
    ·omega
    split at hw
    ·omega
    ·rename_i h1 h2
     rw [not_or] at h2
     have := zbV9 (by simpa using h2.2) i hi
     have := hv.ci
     omega) n1
   have hi1 : ∀ p, idsE p (ints l) = true := fun p => kj0 p _
   have hi2 : ∀ p, idsE p (strs x.ins) = true := fun p => wa0 p _
   unfold GS.A at *
   rw [hz1] at hc ⊢
   generalize zx0 l x.ins = T at *
   refine qd0 0 25 [.tmp 4, .tmp 5] Tryz.func18 rfl rfl rfl (by simp) ?_
   intro s ⟨a0, a1, hz⟩
   simp only [Nat.zero_add, Nat.reduceAdd] at a1
   clear hz
   repeat' (first|refine nav ?_|(refine g0_ ?_; refine goD ?_)|(with_reducible refine gG ?_ ?_)|((with_reducible refine And.intro (fun h => ?_) (fun h => ?_)) <;> try (exfalso; omega))|(with_reducible refine andG ?_)|(first|(refine ⟨_, _, qa0 (hc) (by (simp [idsL, idsE, AV.ids, hid, hi1, hi2])) _, ?_⟩)|(refine ⟨_, qa0 (hc) (by (simp [idsL, idsE, AV.ids, hid, hi1, hi2])) _, ?_⟩)|(refine ⟨_, fun _ => qa0 (hc) (by (simp [idsL, idsE, AV.ids, hid, hi1, hi2])) _, ?_⟩)|(refine ⟨_, _, qa0 (hcw) (by (simp [idsL, idsE, AV.ids, hid, hi1, hi2])) _, ?_⟩)|(refine ⟨_, qa0 (hcw) (by (simp [idsL, idsE, AV.ids, hid, hi1, hi2])) _, ?_⟩)|(refine ⟨_, fun _ => qa0 (hcw) (by (simp [idsL, idsE, AV.ids, hid, hi1, hi2])) _, ?_⟩)|(refine ⟨_, _, qa0 (hN) (by (simp [idsL, idsE, AV.ids, hid, hi1, hi2])) _, ?_⟩)|(refine ⟨_, qa0 (hN) (by (simp [idsL, idsE, AV.ids, hid, hi1, hi2])) _, ?_⟩)|(refine ⟨_, fun _ => qa0 (hN) (by (simp [idsL, idsE, AV.ids, hid, hi1, hi2])) _, ?_⟩))|simp (disch := (first|exact discB|fail)) only [push_cast, simprocAttr, a0, a1])
  ·rw [if_neg hw]
   have hi1 : ∀ p, idsE p (ints l) = true := fun p => kj0 p _
   unfold GS.A at *
   generalize xl0 l x.i = m at *
   refine qd0 0 25 [.tmp 4, .tmp 5] Tryz.func18 rfl rfl rfl (by simp) ?_
   intro s ⟨a0, a1, hz⟩
   simp only [Nat.zero_add, Nat.reduceAdd] at a1
   clear hz
   repeat' (first|refine nav ?_|(refine g0_ ?_; refine goD ?_)|(with_reducible refine gG ?_ ?_)|((with_reducible refine And.intro (fun h => ?_) (fun h => ?_)) <;> try (exfalso; omega))|(with_reducible refine andG ?_)|(first|(refine ⟨_, _, qa0 (hc) (by (simp [idsL, idsE, AV.ids, hid, hi1])) _, ?_⟩)|(refine ⟨_, qa0 (hc) (by (simp [idsL, idsE, AV.ids, hid, hi1])) _, ?_⟩)|(refine ⟨_, fun _ => qa0 (hc) (by (simp [idsL, idsE, AV.ids, hid, hi1])) _, ?_⟩)|(refine ⟨_, _, qa0 (hcw) (by (simp [idsL, idsE, AV.ids, hid, hi1])) _, ?_⟩)|(refine ⟨_, qa0 (hcw) (by (simp [idsL, idsE, AV.ids, hid, hi1])) _, ?_⟩)|(refine ⟨_, fun _ => qa0 (hcw) (by (simp [idsL, idsE, AV.ids, hid, hi1])) _, ?_⟩))|simp (disch := (first|exact discB|fail)) only [push_cast, simprocAttr, a0, a1, hw])
theorem xdx9 (v : Int) (b : Nat) (H : List Blk) (i o : Int) (x0 x3 x4 x5 x6 : AV) (hb : H[b]? = some (.row 7 27 [[x0, .int .i64 i, .int .i64 o, x3, x4, x5, x6]])) : va0 Tryz.prog G0 60 [.int .i64 v, .ptr b 0 0 1] H (.bool (badO o v)) H := by
 refine ql0 13 [.tmp 3] Tryz.func60 rfl rfl rfl (by simp) ?_
 intro s ⟨a0, a1, hz⟩
 simp only [Nat.zero_add, Nat.reduceAdd] at a1
 clear hz
 repeat' (first|refine nav ?_|(refine g0_ ?_; refine goD ?_)|(with_reducible refine gG ?_ ?_)|((with_reducible refine And.intro (fun h => ?_) (fun h => ?_)) <;> try (exfalso; omega))|(with_reducible refine andG ?_)|fail|simp (disch := (first|exact discB|fail)) only [push_cast, simprocAttr, a0, a1, hb])
 all_goals rfl
def otE (x : GS) (l : List Int) : Int := if 256 < l.length then 3 else if (l.any (badO x.o)) = true then 1 else 0
def otA (x : GS) (l : List Int) : AV := if chkS x = 0 then (if otE x l = 0 then .tup [.str (zx0 l x.outs), .int .i64 0] else .tup [.str [], .int .i64 (otE x l)]) else .tup [.str [], .int .i64 (chkS x)]
theorem vT0 (x : GS) (hx : x.Ok) (z : Nat) (l : List Int) (c : Option Nat) (hz : l = [] ∨ z = 1) (hl : l.length ≤ 1000000) : PC Tryz.prog G0 19 [.agg x.A, .sl z (ints l) c] (otA x l) := by
 have hc := qZ0 x hx
 have hid := fun p => xab9 p x
 unfold otA
 by_cases h0 : chkS x = 0
 rotate_left
 ·rw [if_neg h0]
  unfold GS.A at *
  generalize chkS x = m at *
  refine qd0 0 22 [.tmp 4, .tmp 5] Tryz.func19 rfl rfl rfl (by simp) ?_
  intro s ⟨a0, a1, hz⟩
  simp only [Nat.zero_add, Nat.reduceAdd] at a1
  clear hz
  repeat' (first|refine nav ?_|(refine g0_ ?_; refine goD ?_)|(with_reducible refine gG ?_ ?_)|((with_reducible refine And.intro (fun h => ?_) (fun h => ?_)) <;> try (exfalso; omega))|(with_reducible refine andG ?_)|(first|(refine ⟨_, _, qa0 (hc) (by (simp [idsL, idsE, AV.ids, hid])) _, ?_⟩)|(refine ⟨_, qa0 (hc) (by (simp [idsL, idsE, AV.ids, hid])) _, ?_⟩)|(refine ⟨_, fun _ => qa0 (hc) (by (simp [idsL, idsE, AV.ids, hid])) _, ?_⟩))|simp (disch := (first|exact discB|fail)) only [push_cast, simprocAttr, a0, a1])
 ·rw [if_pos h0]
  rw [h0] at hc
  have hv := chkS_zero.1 h0
  obtain ⟨l1, l2, l3, l4, l5, l6⟩ := hv.cnts
  obtain ⟨n1, n2, n3, n4⟩ := hv.len
  have hz1 : x.zo = 1 := hx.o.resolve_left (by intro e; rw [e] at l5; simp at l5)
  have hi1 : ∀ p, idsE p (ints l) = true := fun p => kj0 p _
  have hi2 : ∀ p, idsE p (strs x.outs) = true := fun p => wa0 p _
  have hcf := vJ0 (badO x.o) 60 [.ptr 0 0 0 1] z l c [.row 7 27 [x.A]] hz (by kernel_rfl) (fun v => xdx9 v 0 _ x.i x.o _ _ _ _ _ rfl) hl
  have hbo := fun h => vbc9 (l := l) (n := x.o) h
  have hN := fun (h : l.any (badO x.o) = false) => qbV9 z l c x.outs x.co hz hl (by omega) (fun i hi => by
   have := vbc9 h i hi
   have := hv.co
   omega) n2
  unfold otE
  unfold GS.A at *
  rw [hz1] at hc hcf ⊢
  by_cases hbig : 256 < l.length
  ·rw [if_pos hbig, if_neg (by decide)]
   refine qd0 0 22 [.tmp 4, .tmp 5] Tryz.func19 rfl rfl rfl (by simp) ?_
   intro s ⟨a0, a1, hz⟩
   simp only [Nat.zero_add, Nat.reduceAdd] at a1
   clear hz
   repeat' (first|refine nav ?_|(refine g0_ ?_; refine goD ?_)|(with_reducible refine gG ?_ ?_)|((with_reducible refine And.intro (fun h => ?_) (fun h => ?_)) <;> try (exfalso; omega))|(with_reducible refine andG ?_)|(first|(refine ⟨_, _, qa0 (hc) (by (simp [idsL, idsE, AV.ids, hid, hi1])) _, ?_⟩)|(refine ⟨_, qa0 (hc) (by (simp [idsL, idsE, AV.ids, hid, hi1])) _, ?_⟩)|(refine ⟨_, fun _ => qa0 (hc) (by (simp [idsL, idsE, AV.ids, hid, hi1])) _, ?_⟩))|simp (disch := (first|exact discB|fail)) only [push_cast, simprocAttr, a0, a1])
  ·rw [if_neg hbig]
   cases hb : l.any (badO x.o) with
   | true =>
    rw [hb] at hcf
    rw [if_pos rfl, if_neg (by decide)]
    refine qd0 0 22 [.tmp 4, .tmp 5] Tryz.func19 rfl rfl rfl (by simp) ?_
    intro s ⟨a0, a1, hz⟩
    simp only [Nat.zero_add, Nat.reduceAdd] at a1
    clear hz
    repeat' (first|refine nav ?_|(refine g0_ ?_; refine goD ?_)|(with_reducible refine gG ?_ ?_)|((with_reducible refine And.intro (fun h => ?_) (fun h => ?_)) <;> try (exfalso; omega))|(with_reducible refine andG ?_)|(first|(refine ⟨_, _, qa0 (hc) (by (simp [idsL, idsE, AV.ids, hid, hi1])) _, ?_⟩)|(refine ⟨_, qa0 (hc) (by (simp [idsL, idsE, AV.ids, hid, hi1])) _, ?_⟩)|(refine ⟨_, fun _ => qa0 (hc) (by (simp [idsL, idsE, AV.ids, hid, hi1])) _, ?_⟩)|(refine ⟨_, _, hcf, ?_⟩)|(refine ⟨_, hcf, ?_⟩)|(refine ⟨_, fun _ => hcf, ?_⟩))|simp (disch := (first|exact discB|fail)) only [push_cast, simprocAttr, a0, a1, en60])
   | false =>
    rw [hb] at hcf
    have hN := hN hb
    rw [if_neg (show ¬ (false = true) by decide), if_pos rfl]
    generalize zx0 l x.outs = T at *
    refine qd0 0 22 [.tmp 4, .tmp 5] Tryz.func19 rfl rfl rfl (by simp) ?_
    intro s ⟨a0, a1, hz⟩
    simp only [Nat.zero_add, Nat.reduceAdd] at a1
    clear hz
    repeat' (first|refine nav ?_|(refine g0_ ?_; refine goD ?_)|(with_reducible refine gG ?_ ?_)|((with_reducible refine And.intro (fun h => ?_) (fun h => ?_)) <;> try (exfalso; omega))|(with_reducible refine andG ?_)|(first|(refine ⟨_, _, qa0 (hc) (by (simp [idsL, idsE, AV.ids, hid, hi1, hi2])) _, ?_⟩)|(refine ⟨_, qa0 (hc) (by (simp [idsL, idsE, AV.ids, hid, hi1, hi2])) _, ?_⟩)|(refine ⟨_, fun _ => qa0 (hc) (by (simp [idsL, idsE, AV.ids, hid, hi1, hi2])) _, ?_⟩)|(refine ⟨_, _, hcf, ?_⟩)|(refine ⟨_, hcf, ?_⟩)|(refine ⟨_, fun _ => hcf, ?_⟩)|(refine ⟨_, _, qa0 (hN) (by (simp [idsL, idsE, AV.ids, hid, hi1, hi2])) _, ?_⟩)|(refine ⟨_, qa0 (hN) (by (simp [idsL, idsE, AV.ids, hid, hi1, hi2])) _, ?_⟩)|(refine ⟨_, fun _ => qa0 (hN) (by (simp [idsL, idsE, AV.ids, hid, hi1, hi2])) _, ?_⟩))|simp (disch := (first|exact discB|fail)) only [push_cast, simprocAttr, a0, a1, en60])
end Go.Proofs
