import Derived.Test.YtlpjemobbjijdaaGreatDoorS24
namespace Go.Proofs
open Go Go.V
set_option linter.unusedVariables false
set_option linter.unusedSimpArgs false
set_option maxHeartbeats 0
set_option maxRecDepth 100000
theorem wbx9 (p : Int → Bool) (g : FuncId) (cap : List AV) (z : Nat) (l : List Int) (c : Option Nat) (H : List Blk) (hz : l = [] ∨ z = 1) (hent : qa0 Tryz.prog g = true) (hp : ∀ x, qb0 Tryz.prog G0 g (.int .i64 x :: cap) H (.bool (p x)) H) (hx : l.length ≤ 1000000) :
  qb0 Tryz.prog G0 95 [.sl z (ints l) c, .fn g cap] H (.int .i64 (idxL p l)) H := by
 refine zp0 19 [.tmp 4] Tryz.func95 rfl rfl rfl (by simp) ?_;intro s ⟨a0, a1, hz⟩;simp only [l'g, Nat.reduceAdd] at a1;clear hz;repeat' (first|refine nv ?_|(with_reducible first|refine gG ?_ ?_|refine ⟨fun h => ?_, fun h => ?_⟩ <;> try omega|refine andG ?_)|simp (disch := try exact discB) only [push_cast, simprocAttr, a0, a1])
 refine go_loop rfl (fun mz s' H' => ∃ k : Nat, k ≤ l.length ∧ mz = l.length - k ∧ H' = H ∧ s' 0 = .sl z (ints l) c ∧ s' 1 = .fn g cap ∧ s' 7 = .int .i64 l.length ∧ s' 8 = .int .i64 k ∧ ∀ j, j < k → p (l.getD j 0) = false) (m := l.length) (by first|exact va0|fail) (Weak.refl _ _) ⟨0, by omega, by omega, rfl, ?_⟩ ?_
 ·simp (disch := try exact discB) only [push_cast, simprocAttr, a0, a1];all_goals exact fun j hj => by omega
 ·rintro mz s' H' ⟨k, hk, rfl, rfl, b0, b1, b7, b8, ik⟩;rcases l'h k l.length with hlt|hge
  ·obtain rfl := hz.resolve_left (by intro h; rw [h] at hlt; simp at hlt);have e1 := kab9 l k hlt;have hP := hp (l.getD k 0);have hn := xC0 p 0 l k ik hlt;have hs := fun h => wE0 ik (show p (l.getD k 0) = false from h);generalize l.getD k 0 = x at *;repeat' (first|refine nv ?_|(with_reducible first|refine gG ?_ ?_|refine ⟨fun h => ?_, fun h => ?_⟩ <;> try omega|refine andG ?_)|refine cl hP ?_|simp (disch := try exact discB) only [push_cast, simprocAttr, b0, b1, b7, b8, e1, hent])
   ·rw [hn h]
   ·refine wa0 (l.length - (k + 1)) (by omega) (by first|exact va0|fail) ⟨k + 1, by omega, rfl, rfl, ?_⟩;simp (disch := try exact discB) only [push_cast, simprocAttr, b0, b1, b7, b8, e1, hent];exact hs h
  ·obtain rfl : k = l.length := by omega
   repeat' (first|refine nv ?_|(with_reducible first|refine gG ?_ ?_|refine ⟨fun h => ?_, fun h => ?_⟩ <;> try omega|refine andG ?_)|refine cl hP ?_|simp (disch := try exact discB) only [push_cast, simprocAttr, b0, b1, b7, b8])
   rw [xaB9 p 0 l ik]
theorem wS0 (p : Int → Bool) (g : FuncId) (cap : List AV) (z : Nat) (l : List Int) (c : Option Nat) (H : List Blk) (hz : l = [] ∨ z = 1) (hent : qa0 Tryz.prog g = true) (hp : ∀ x, qb0 Tryz.prog G0 g (.int .i64 x :: cap) H (.bool (p x)) H) (hx : l.length ≤ 1000000) :
  qb0 Tryz.prog G0 59 [.sl z (ints l) c, .fn g cap] H (.bool (l.any p)) H := by
 refine zp0 9 [.tmp 4] Tryz.func59 rfl rfl rfl (by simp) ?_;intro s ⟨a0, a1, hz⟩;simp only [l'g, Nat.reduceAdd] at a1;clear hz;repeat' (first|refine nv ?_|(with_reducible first|refine gG ?_ ?_|refine ⟨fun h => ?_, fun h => ?_⟩ <;> try omega|refine andG ?_)|refine cl (wbx9 p g cap z l c H hz hent hp hx) ?_|simp (disch := try exact discB) only [push_cast, simprocAttr, a0, a1])
 exact congrArg AV.bool (qac9 p l)
def badI (n x : Int) : Bool := decide (x < 0) || decide (n ≤ x)
theorem kdw9 (x n : Int) (b : Nat) (H : List Blk) (hb : H[b]? = some (.row 1 3 [[.int .i64 n]])) : qb0 Tryz.prog G0 94 [.int .i64 x, .ptr b 0 0 1] H (.bool (badI n x)) H := by
 refine zp0 11 [.tmp 3] Tryz.func94 rfl rfl rfl (by simp) ?_;intro s ⟨a0, a1, hz⟩;simp only [l'g, Nat.reduceAdd] at a1;clear hz;repeat' (first|refine nv ?_|(with_reducible first|refine gG ?_ ?_|refine ⟨fun h => ?_, fun h => ?_⟩ <;> try omega|refine andG ?_)|simp (disch := try exact discB) only [push_cast, simprocAttr, a0, a1, hb])
 all_goals rfl
def kad9 (xs : List Int) (n : Int) : Int := if 16 < n ∨ 256 < xs.length then 3 else if n < 1 ∨ xs.any (badI n) = true then 1 else 0
theorem qdx9 (z : Nat) (xs : List Int) (c : Option Nat) (n : Int) (hz : xs = [] ∨ z = 1) (hx : xs.length ≤ 1000000) : PC Tryz.prog G0 57 [.sl z (ints xs) c, .int .i64 n] (.int .i64 (kad9 xs n)) := by
 have hcf := wS0 (badI n) 94 [.ptr 0 0 0 1] z xs c [.row 1 3 [[.int .i64 n]]] hz (by kernel_rfl) (fun x => kdw9 x n 0 _ rfl) hx;refine wb0 0 19 [.tmp 4] Tryz.func57 rfl rfl rfl (by simp) ?_;intro s ⟨a0, a1, hz⟩;simp only [l'g, Nat.reduceAdd] at a1;clear hz;repeat' (first|refine nv ?_|(with_reducible first|refine gG ?_ ?_|refine ⟨fun h => ?_, fun h => ?_⟩ <;> try omega|refine andG ?_)|refine cl hcf ?_|simp (disch := try exact discB) only [push_cast, simprocAttr, a0, a1, en94])
 ·rw [kad9, if_pos (by omega)]
 ·rename_i h1;rw [kad9, if_neg (by omega), if_pos (by rcases h with h|h; exact .inl h; exact .inr h)]
 ·rename_i h1;rw [kad9, if_neg (by omega), if_neg (by rintro (q|q); omega; rw [h.2] at q; cases q)]
def zW0 (l : List Bs) (k : Nat) : List (List AV) := strs (l.take k ++ List.replicate (l.length - k) [])
theorem zbV9 (l : List Bs) : zW0 l 0 = List.replicate l.length [.str []] := by simp [zW0, strs]
theorem kcv9 (l : List Bs) : zW0 l l.length = strs l := by simp [zW0]
theorem qcw9 (l : List Bs) (k : Nat) (h : k ≤ l.length) : (zW0 l k).length = l.length := by simp [zW0, strs]; omega
theorem zcw9 (l : List Bs) (k : Nat) (h : k < l.length) : (zW0 l k).getD k [] = [.str []] := by
 have e1 : (l.take k).length = k := by simp; omega
 rw [zW0, show l.length - k = (l.length - (k + 1)) + 1 by omega, List.replicate_succ];simp only [strs, n'c, List.map_cons];rw [l'b, l'q (by simp; omega), l'B, e1, l'N]; rfl
theorem xcw9 (l : List Bs) (k : Nat) (h : k < l.length) : (zW0 l k).set k [.str (l.getD k [])] = zW0 l (k + 1) := by
 have e1 : (l.take k).length = k := by simp; omega
 have e2 := wy0 l k h;rw [zW0, zW0, e2, show l.length - k = (l.length - (k + 1)) + 1 by omega, List.replicate_succ];simp only [strs, n'c, List.map_cons, List.map_nil, l't, List.singleton_append];rw [l'O _ _ (by simp; omega), l'B, e1, l'N]; rfl
def nmI (names : List Bs) (i : Int) : Bs := if i = -1 then [33] else names.getD i.toNat []
def waN9 (l : List Int) (names : List Bs) : Bs := if l = [] then [45] else Lib.join (l.map (nmI names)) [32]
theorem wcw9 (z : Nat) (l : List Int) (c : Option Nat) (names : List Bs) (cn : Option Nat) (hz : l = [] ∨ z = 1) (hl : l.length ≤ 1000000) (hn : names.length ≤ 1000000) (hi : ∀ i ∈ l, i = -1 ∨ (0 ≤ i ∧ i < names.length)) (hs : ∀ s ∈ names, s.length ≤ 16) : PC Tryz.prog G0 58 [.sl z (ints l) c, .sl 1 (strs names) cn] (.str (waN9 l names)) := by
 have hJ := fun H => kbi9 H (.own 0 l.length l.length (some l.length)) (l.map (nmI names)) [32];unfold waN9;by_cases hnil : l = []
 ·rw [if_pos hnil];subst hnil;refine wb0 0 36 [.tmp 4] Tryz.func58 rfl rfl rfl (by simp) ?_;intro s ⟨a0, a1, hz⟩;simp only [l'g, Nat.reduceAdd] at a1;clear hz;repeat' (first|refine nv ?_|(with_reducible first|refine gG ?_ ?_|refine ⟨fun h => ?_, fun h => ?_⟩ <;> try omega|refine andG ?_)|simp (disch := try exact discB) only [push_cast, simprocAttr, a0, a1])
 ·rw [if_neg hnil];have hpos : 0 < l.length := n'm.2 hnil;obtain rfl := hz.resolve_left hnil;have hz0 := zbV9 (l.map (nmI names));have hml : (l.map (nmI names)).length = l.length := l'B ..;rw [hml] at hz0;have hil := xA0 l;have hnl := za0 names;have hpos2 : ¬ (l.length : Int) = 0 := by omega
  refine wb0 0 36 [.tmp 4] Tryz.func58 rfl rfl rfl (by simp) ?_;intro s ⟨a0, a1, hz⟩;simp only [l'g, Nat.reduceAdd] at a1;clear hz;repeat' (first|refine nv ?_|(with_reducible first|refine gG ?_ ?_|refine ⟨fun h => ?_, fun h => ?_⟩ <;> try omega|refine andG ?_)|simp (disch := try exact discB) only [push_cast, simprocAttr, a0, a1, hil, hpos2])
  rw [← hz0];refine go_loop rfl (fun mz s' H' => ∃ k : Nat, k ≤ l.length ∧ mz = l.length - k ∧ H' = [.row 1 9 (zW0 (l.map (nmI names)) k)] ∧ s' 1 = .sl 1 (strs names) cn ∧ s' 5 = .own 0 l.length l.length (some l.length) ∧ s' 14 = .sl 1 (ints l) c ∧ s' 15 = .int .i64 l.length ∧ s' 16 = .int .i64 k) (m := l.length) (by first|exact va0|fail) (Weak.refl _ _) ⟨0, by omega, by omega, rfl, ?_⟩ ?_
  ·simp (disch := try exact discB) only [push_cast, simprocAttr, a0, a1, hil, hpos2]
  ·rintro mz s' H' ⟨k, hk, rfl, rfl, b1, b5, b14, b15, b16⟩;rcases l'h k l.length with hlt|hge
   ·have e1 := kab9 l k hlt;have hfg := zcw9 (l.map (nmI names)) k (by omega);have hfs := xcw9 (l.map (nmI names)) k (by omega);have hfl := qcw9 (l.map (nmI names)) k (by omega);rw [hml] at hfl;have hx : (l.map (nmI names)).getD k [] = nmI names (l.getD k 0) := by simp [hlt]
    rw [hx] at hfs;have hi1 := hi _ (ze0 0 hlt);generalize zW0 (l.map (nmI names)) k = F0 at *;generalize l.getD k 0 = i at *;by_cases h1 : i = -1
    ·subst h1;rw [nmI, if_pos rfl] at hfs;repeat' (first|refine nv ?_|(with_reducible first|refine gG ?_ ?_|refine ⟨fun h => ?_, fun h => ?_⟩ <;> try omega|refine andG ?_)|simp (disch := try exact discB) only [push_cast, simprocAttr, b1, b5, b14, b15, b16, e1, hfg, hfs, hfl, hil])
     refine wa0 (l.length - (k + 1)) (by omega) (by first|exact va0|fail) ⟨k + 1, by omega, rfl, rfl, ?_⟩;simp (disch := try exact discB) only [push_cast, simprocAttr, b1, b5, b14, b15, b16, e1, hfg, hfs, hfl, hil]
    ·obtain ⟨q1, q2⟩ := hi1.resolve_left h1;rw [nmI, if_neg h1] at hfs;obtain ⟨n, rfl⟩ : ∃ n : Nat, i = n := ⟨i.toNat, by omega⟩;rw [Int.toNat_natCast] at hfs;have e2 := vc0 names n (by omega);have hfs2 : (F0.set k [.str [33]]).set k [.str (names.getD n [])] = zW0 (l.map (nmI names)) (k + 1) := by rw [List.set_set, hfs]
     have hfg2 : (F0.set k [.str [33]]).getD k [] = [.str [33]] := by rw [l'b, l'o (by omega)]; rfl
     have hfl2 : (F0.set k [.str [33]]).length = l.length := by rw [l'D, hfl]
     generalize names.getD n [] = y at *;repeat' (first|refine nv ?_|(with_reducible first|refine gG ?_ ?_|refine ⟨fun h => ?_, fun h => ?_⟩ <;> try omega|refine andG ?_)|simp (disch := try exact discB) only [push_cast, simprocAttr, b1, b5, b14, b15, b16, e1, e2, hfg, hfs2, hfg2, hfl2, hfl, hil, hnl, h1])
     refine wa0 (l.length - (k + 1)) (by omega) (by first|exact va0|fail) ⟨k + 1, by omega, rfl, rfl, ?_⟩;simp (disch := try exact discB) only [push_cast, simprocAttr, b1, b5, b14, b15, b16, e1, e2, hfg, hfs2, hfg2, hfl2, hfl, hil, hnl, h1]
   ·obtain rfl : k = l.length := by omega
    have hfa := kcv9 (l.map (nmI names));rw [hml] at hfa;rw [hfa];have hjl := qas9 16 [32] (l.map (nmI names)) (fun s hs2 => by
     obtain ⟨i, _, rfl⟩ := l'Z.1 hs2;unfold nmI;split
     ·decide
     ·exact xH0 hs _)
    rw [hml] at hjl;have hsl := za0 (l.map (nmI names));rw [hml] at hsl;have hJ := hJ [.row 1 9 (strs (l.map (nmI names)))] (.inr ⟨0, l.length, some l.length, 9, strs (l.map (nmI names)), by rw [hsl], rfl, by omega, l'y (by omega)⟩) (by simp only [List.length_singleton] at hjl; omega) (by omega);repeat' (first|refine nv ?_|(with_reducible first|refine gG ?_ ?_|refine ⟨fun h => ?_, fun h => ?_⟩ <;> try omega|refine andG ?_)|refine cl hJ ?_|simp (disch := try exact discB) only [push_cast, simprocAttr, b1, b5, b14, b15, b16, hil, hsl])
theorem zdx9 {l : List Int} {n : Int} (h : (l.any (badI n)) = false) : ∀ i ∈ l, 0 ≤ i ∧ i < n := fun i hi => by
 have := z'j.1 h i hi;simp only [badI, l's, decide_eq_true_eq, not_or] at this;omega
def badO (n x : Int) : Bool := decide (x < -1) || decide (n ≤ x)
theorem vcw9 {l : List Int} {n : Int} (h : (l.any (badO n)) = false) : ∀ i ∈ l, i = -1 ∨ (0 ≤ i ∧ i < n) := fun i hi => by
 have := z'j.1 h i hi;simp only [badO, l's, decide_eq_true_eq, not_or] at this;omega
def wtA (x : GS) (l : List Int) : AV := if chkS x = 0 then (if kad9 l x.i = 0 then .tup [.str (waN9 l x.ins), .int .i64 0] else .tup [.str [], .int .i64 (kad9 l x.i)]) else .tup [.str [], .int .i64 (chkS x)]
theorem xbV9 (x : GS) (hx : x.Ok) (z : Nat) (l : List Int) (c : Option Nat) (hz : l = [] ∨ z = 1) (hl : l.length ≤ 1000000) : PC Tryz.prog G0 18 [.agg x.A, .sl z (ints l) c] (wtA x l) := by
 have hc := vV0 x hx;have hcw := qdx9 z l c x.i hz hl;have hid := fun p => vr0 p x;unfold wtA;by_cases h0 : chkS x = 0
 rotate_left
 ·rw [if_neg h0];unfold GS.A at *;generalize chkS x = m at *;refine wb0 0 25 [.tmp 4, .tmp 5] Tryz.func18 rfl rfl rfl (by simp) ?_;intro s ⟨a0, a1, hz⟩;simp only [l'g, Nat.reduceAdd] at a1;clear hz;repeat' (first|refine nv ?_|(with_reducible first|refine gG ?_ ?_|refine ⟨fun h => ?_, fun h => ?_⟩ <;> try omega|refine andG ?_)|refine cp hc ?_ (hi := by (simp [idsL, idsE, AV.ids, hid]))|simp (disch := try exact discB) only [push_cast, simprocAttr, a0, a1])
 ·rw [if_pos h0];rw [h0] at hc;have hv := chkS_zero.1 h0;obtain ⟨l1, l2, l3, l4, l5, l6⟩ := hv.cnts;obtain ⟨n1, n2, n3, n4⟩ := hv.len;have hz1 : x.zi = 1 := hx.i.resolve_left (by intro e; rw [e] at l4; simp at l4);by_cases hw : kad9 l x.i = 0
  ·rw [if_pos hw];rw [hw] at hcw;have hN := wcw9 z l c x.ins x.ci hz hl (by omega) (fun i hi => by
    unfold kad9 at hw;split at hw
    ·omega
    split at hw
    ·omega
    ·rename_i h1 h2;rw [not_or] at h2;have := zdx9 (by simpa using h2.2) i hi;have := hv.ci;omega) n1
   have hi1 : ∀ p, idsE p (ints l) = true := fun p => wr0 p _;have hi2 : ∀ p, idsE p (strs x.ins) = true := fun p => xa0 p _;unfold GS.A at *;rw [hz1] at hc ⊢;generalize waN9 l x.ins = T at *;refine wb0 0 25 [.tmp 4, .tmp 5] Tryz.func18 rfl rfl rfl (by simp) ?_;intro s ⟨a0, a1, hz⟩;simp only [l'g, Nat.reduceAdd] at a1;clear hz;repeat' (first|refine nv ?_|(with_reducible first|refine gG ?_ ?_|refine ⟨fun h => ?_, fun h => ?_⟩ <;> try omega|refine andG ?_)|refine cp hc ?_ (hi := by (simp [idsL, idsE, AV.ids, hid, hi1, hi2]))|refine cp hcw ?_ (hi := by (simp [idsL, idsE, AV.ids, hid, hi1, hi2]))|refine cp hN ?_ (hi := by (simp [idsL, idsE, AV.ids, hid, hi1, hi2]))|simp (disch := try exact discB) only [push_cast, simprocAttr, a0, a1])
  ·rw [if_neg hw];have hi1 : ∀ p, idsE p (ints l) = true := fun p => wr0 p _;unfold GS.A at *;generalize kad9 l x.i = m at *;refine wb0 0 25 [.tmp 4, .tmp 5] Tryz.func18 rfl rfl rfl (by simp) ?_;intro s ⟨a0, a1, hz⟩;simp only [l'g, Nat.reduceAdd] at a1;clear hz;repeat' (first|refine nv ?_|(with_reducible first|refine gG ?_ ?_|refine ⟨fun h => ?_, fun h => ?_⟩ <;> try omega|refine andG ?_)|refine cp hc ?_ (hi := by (simp [idsL, idsE, AV.ids, hid, hi1]))|refine cp hcw ?_ (hi := by (simp [idsL, idsE, AV.ids, hid, hi1]))|simp (disch := try exact discB) only [push_cast, simprocAttr, a0, a1, hw])
theorem wek9 (v : Int) (b : Nat) (H : List Blk) (i o : Int) (x0 x3 x4 x5 x6 : AV) (hb : H[b]? = some (.row 7 27 [[x0, .int .i64 i, .int .i64 o, x3, x4, x5, x6]])) : qb0 Tryz.prog G0 60 [.int .i64 v, .ptr b 0 0 1] H (.bool (badO o v)) H := by
 refine zp0 13 [.tmp 3] Tryz.func60 rfl rfl rfl (by simp) ?_;intro s ⟨a0, a1, hz⟩;simp only [l'g, Nat.reduceAdd] at a1;clear hz;repeat' (first|refine nv ?_|(with_reducible first|refine gG ?_ ?_|refine ⟨fun h => ?_, fun h => ?_⟩ <;> try omega|refine andG ?_)|simp (disch := try exact discB) only [push_cast, simprocAttr, a0, a1, hb])
 all_goals rfl
def otE (x : GS) (l : List Int) : Int := if 256 < l.length then 3 else if (l.any (badO x.o)) = true then 1 else 0
def otA (x : GS) (l : List Int) : AV := if chkS x = 0 then (if otE x l = 0 then .tup [.str (waN9 l x.outs), .int .i64 0] else .tup [.str [], .int .i64 (otE x l)]) else .tup [.str [], .int .i64 (chkS x)]
theorem kbj9 (x : GS) (hx : x.Ok) (z : Nat) (l : List Int) (c : Option Nat) (hz : l = [] ∨ z = 1) (hl : l.length ≤ 1000000) : PC Tryz.prog G0 19 [.agg x.A, .sl z (ints l) c] (otA x l) := by
 have hc := vV0 x hx;have hid := fun p => vr0 p x;unfold otA;by_cases h0 : chkS x = 0
 rotate_left
 ·rw [if_neg h0];unfold GS.A at *;generalize chkS x = m at *;refine wb0 0 22 [.tmp 4, .tmp 5] Tryz.func19 rfl rfl rfl (by simp) ?_;intro s ⟨a0, a1, hz⟩;simp only [l'g, Nat.reduceAdd] at a1;clear hz;repeat' (first|refine nv ?_|(with_reducible first|refine gG ?_ ?_|refine ⟨fun h => ?_, fun h => ?_⟩ <;> try omega|refine andG ?_)|refine cp hc ?_ (hi := by (simp [idsL, idsE, AV.ids, hid]))|simp (disch := try exact discB) only [push_cast, simprocAttr, a0, a1])
 ·rw [if_pos h0];rw [h0] at hc;have hv := chkS_zero.1 h0;obtain ⟨l1, l2, l3, l4, l5, l6⟩ := hv.cnts;obtain ⟨n1, n2, n3, n4⟩ := hv.len;have hz1 : x.zo = 1 := hx.o.resolve_left (by intro e; rw [e] at l5; simp at l5);have hi1 : ∀ p, idsE p (ints l) = true := fun p => wr0 p _;have hi2 : ∀ p, idsE p (strs x.outs) = true := fun p => xa0 p _;have hcf := wS0 (badO x.o) 60 [.ptr 0 0 0 1] z l c [.row 7 27 [x.A]] hz (by kernel_rfl) (fun v => wek9 v 0 _ x.i x.o _ _ _ _ _ rfl) hl;have hbo := fun h => vcw9 (l := l) (n := x.o) h;have hN := fun (h : l.any (badO x.o) = false) => wcw9 z l c x.outs x.co hz hl (by omega) (fun i hi => by
   have := vcw9 h i hi;have := hv.co;omega) n2
  unfold otE;unfold GS.A at *;rw [hz1] at hc hcf ⊢;by_cases hbig : 256 < l.length
  ·rw [if_pos hbig, if_neg (by decide)];refine wb0 0 22 [.tmp 4, .tmp 5] Tryz.func19 rfl rfl rfl (by simp) ?_;intro s ⟨a0, a1, hz⟩;simp only [l'g, Nat.reduceAdd] at a1;clear hz;repeat' (first|refine nv ?_|(with_reducible first|refine gG ?_ ?_|refine ⟨fun h => ?_, fun h => ?_⟩ <;> try omega|refine andG ?_)|refine cp hc ?_ (hi := by (simp [idsL, idsE, AV.ids, hid, hi1]))|simp (disch := try exact discB) only [push_cast, simprocAttr, a0, a1])
  ·rw [if_neg hbig];cases hb : l.any (badO x.o) with
   | true =>
    rw [hb] at hcf;rw [if_pos rfl, if_neg (by decide)];refine wb0 0 22 [.tmp 4, .tmp 5] Tryz.func19 rfl rfl rfl (by simp) ?_;intro s ⟨a0, a1, hz⟩;simp only [l'g, Nat.reduceAdd] at a1;clear hz;repeat' (first|refine nv ?_|(with_reducible first|refine gG ?_ ?_|refine ⟨fun h => ?_, fun h => ?_⟩ <;> try omega|refine andG ?_)|refine cp hc ?_ (hi := by (simp [idsL, idsE, AV.ids, hid, hi1]))|refine cl hcf ?_|simp (disch := try exact discB) only [push_cast, simprocAttr, a0, a1, en60])
   | false =>
    rw [hb] at hcf;have hN := hN hb;rw [if_neg (show ¬ (false = true) by decide), if_pos rfl];generalize waN9 l x.outs = T at *;refine wb0 0 22 [.tmp 4, .tmp 5] Tryz.func19 rfl rfl rfl (by simp) ?_;intro s ⟨a0, a1, hz⟩;simp only [l'g, Nat.reduceAdd] at a1;clear hz;repeat' (first|refine nv ?_|(with_reducible first|refine gG ?_ ?_|refine ⟨fun h => ?_, fun h => ?_⟩ <;> try omega|refine andG ?_)|refine cp hc ?_ (hi := by (simp [idsL, idsE, AV.ids, hid, hi1, hi2]))|refine cl hcf ?_|refine cp hN ?_ (hi := by (simp [idsL, idsE, AV.ids, hid, hi1, hi2]))|simp (disch := try exact discB) only [push_cast, simprocAttr, a0, a1, en60])
def lexI : List Int → List Int → Int
 | x :: xs, y :: ys => if x < y then -1 else if y < x then 1 else lexI xs ys
 | _, _ => 0
def cmpM (xs ys : List Int) : Int := if xs.length < ys.length then -1 else if ys.length < xs.length then 1 else lexI xs ys
theorem qbk9 : ∀ (xs ys : List Int), xs.length = ys.length → (lexI xs ys = 0 ↔ xs = ys)
 | [], [], _ => by simp [lexI]
 | [], _ :: _, h => by simp at h
 | _ :: _, [], h => by simp at h
 | x :: xs, y :: ys, h => by
  have ih := qbk9 xs ys (by simpa using h);rw [lexI, List.cons.injEq, ← ih];split
  ·constructor
   ·intro q; cases q
   ·intro q; omega
  ·split
   ·constructor
    ·intro q; cases q
    ·intro q; omega
   ·constructor
    ·intro q; exact ⟨by omega, q⟩
    ·intro q; exact q.2
theorem kcw9 (xs ys : List Int) : cmpM xs ys = 0 ↔ xs = ys := by
 unfold cmpM;split
 ·constructor
  ·intro q; cases q
  ·intro q; subst q; omega
 ·split
  ·constructor
   ·intro q; cases q
   ·intro q; subst q; omega
  ·exact qbk9 xs ys (by omega)
theorem qcx9 (xs ys : List Int) (k : Nat) (h1 : k < xs.length) (h2 : k < ys.length) : lexI (xs.drop k) (ys.drop k) = if xs.getD k 0 < ys.getD k 0 then -1 else if ys.getD k 0 < xs.getD k 0 then 1 else lexI (xs.drop (k + 1)) (ys.drop (k + 1)) := by
 rw [l'K h1, l'K h2]; simp [lexI, h1, h2]
theorem zcx9 (z : Nat) (xs : List Int) (c : Option Nat) (z' : Nat) (ys : List Int) (d : Option Nat) (hz : xs = [] ∨ z = 1) (hz' : ys = [] ∨ z' = 1) (hx : xs.length ≤ 1000000) (hy : ys.length ≤ 1000000) : PC Tryz.prog G0 96 [.sl z (ints xs) c, .sl z' (ints ys) d] (.int .i64 (cmpM xs ys)) := by
 refine wb0 0 40 [.tmp 4] Tryz.func96 rfl rfl rfl (by simp) ?_;intro s ⟨a0, a1, hz⟩;simp only [l'g, Nat.reduceAdd] at a1;clear hz;repeat' (first|refine nv ?_|(with_reducible first|refine gG ?_ ?_|refine ⟨fun h => ?_, fun h => ?_⟩ <;> try omega|refine andG ?_)|simp (disch := try exact discB) only [push_cast, simprocAttr, a0, a1])
 ·simp only [cmpM, if_pos h]
 ·rename_i h1;simp only [cmpM, if_neg h1, if_pos h]
 ·rename_i h1;have hcm : cmpM xs ys = lexI xs ys := by simp only [cmpM, if_neg h1, if_neg h]
  rw [hcm];refine go_loop rfl (fun mz s' H' => ∃ k : Nat, k ≤ xs.length ∧ mz = xs.length - k ∧ H' = [] ∧ s' 0 = .sl z (ints xs) c ∧ s' 1 = .sl z' (ints ys) d ∧ s' 5 = .int .i64 k ∧ lexI xs ys = lexI (xs.drop k) (ys.drop k)) (m := xs.length) (by first|exact va0|fail) (Weak.refl _ _) ⟨0, by omega, by omega, rfl, ?_⟩ ?_
  ·simp (disch := try exact discB) only [push_cast, simprocAttr, a0, a1]
  ·rintro mz s' H' ⟨k, hk, rfl, rfl, b0, b1, b5, ik⟩;rcases l'h k xs.length with hlt|hge
   ·have hlt2 : k < ys.length := by omega
    obtain rfl := hz.resolve_left (by intro h; rw [h] at hlt; simp at hlt);obtain rfl := hz'.resolve_left (by intro h; rw [h] at hlt2; simp at hlt2);have e1 := kab9 xs k hlt;have e2 := kab9 ys k hlt2;have h3 := qcx9 xs ys k hlt hlt2;rw [← ik] at h3;generalize xs.getD k 0 = a at *;generalize ys.getD k 0 = b at *;repeat' (first|refine nv ?_|(with_reducible first|refine gG ?_ ?_|refine ⟨fun h => ?_, fun h => ?_⟩ <;> try omega|refine andG ?_)|simp (disch := try exact discB) only [push_cast, simprocAttr, b0, b1, b5, e1, e2])
    ·rw [h3, if_pos (by omega)]
    ·rw [h3, if_neg (by omega), if_pos (by omega)]
    ·refine wa0 (xs.length - (k + 1)) (by omega) (by first|exact va0|fail) ⟨k + 1, by omega, rfl, rfl, ?_⟩;simp (disch := try exact discB) only [push_cast, simprocAttr, b0, b1, b5, e1, e2];rw [h3, if_neg (by omega), if_neg (by omega)]
   ·obtain rfl : k = xs.length := by omega
    rw [ik, n'Y];rw [show lexI [] (ys.drop xs.length) = 0 by cases ys.drop xs.length <;> rfl];repeat' (first|refine nv ?_|(with_reducible first|refine gG ?_ ?_|refine ⟨fun h => ?_, fun h => ?_⟩ <;> try omega|refine andG ?_)|simp (disch := try exact discB) only [push_cast, simprocAttr, b0, b1, b5])
theorem kdM9 (z : Nat) (xs : List Int) (c : Option Nat) (z' : Nat) (ys : List Int) (d : Option Nat) (hz : xs = [] ∨ z = 1) (hz' : ys = [] ∨ z' = 1) (hx : xs.length ≤ 1000000) (hy : ys.length ≤ 1000000) : PC Tryz.prog G0 61 [.sl z (ints xs) c, .sl z' (ints ys) d] (.bool (decide (xs = ys))) := by
 have h1 := zcx9 z xs c z' ys d hz hz' hx hy;rw [show decide (xs = ys) = decide (cmpM xs ys = 0) by rw [l'X, decide_eq_true_eq, decide_eq_true_eq, kcw9]];generalize cmpM xs ys = m at *;have hi1 : ∀ p, idsE p (ints xs) = true := fun p => wr0 p _;have hi2 : ∀ p, idsE p (ints ys) = true := fun p => wr0 p _;refine wb0 0 9 [.tmp 4] Tryz.func61 rfl rfl rfl (by simp) ?_;intro s ⟨a0, a1, hz⟩;simp only [l'g, Nat.reduceAdd] at a1;clear hz;repeat' (first|refine nv ?_|(with_reducible first|refine gG ?_ ?_|refine ⟨fun h => ?_, fun h => ?_⟩ <;> try omega|refine andG ?_)|refine cp h1 ?_ (hi := by (simp [idsL, idsE, AV.ids, hi1, hi2]))|simp (disch := try exact discB) only [push_cast, simprocAttr, a0, a1])
theorem zbI9 (z : Nat) (xs : List Int) (n : Nat) (e : Int) (z' : Nat) (ys : List Int) (d : Option Nat) (f : Int) (hz : xs = [] ∨ z = 1) (hz' : ys = [] ∨ z' = 1) (hx : xs.length ≤ 1000000) (hy : ys.length ≤ 1000000) : PC Tryz.prog G0 20 [.sl z (ints xs) (some n), .int .i64 e, .sl z' (ints ys) d, .int .i64 f] (.bool (decide (e = f) && decide (xs = ys) && decide (n = xs.length))) := by
 have h1 := kdM9 z xs (some n) z' ys d hz hz' hx hy;have hl := xA0 xs;have hi1 : ∀ p, idsE p (ints xs) = true := fun p => wr0 p _;have hi2 : ∀ p, idsE p (ints ys) = true := fun p => wr0 p _;generalize decide (xs = ys) = b at *;generalize ints xs = X at *;generalize ints ys = Y at *;refine wb0 0 24 [.tmp 8] Tryz.func20 rfl rfl rfl (by simp) ?_;intro s ⟨a0, a1, a2, a3, hz⟩;simp only [l'g, Nat.reduceAdd] at a1 a2 a3;clear hz;repeat' (first|refine nv ?_|(with_reducible first|refine gG ?_ ?_|refine ⟨fun h => ?_, fun h => ?_⟩ <;> try omega|refine andG ?_)|refine cp h1 ?_ (hi := by (simp [idsL, idsE, AV.ids, hi1, hi2]))|simp (disch := try exact discB) only [push_cast, simprocAttr, a0, a1, a2, a3, hl])
def lampG : GS := ⟨[108, 97, 109, 112], 2, 2, 1, [([(1, 0), (0, 1)], some 2), ([(0, 1), (-1, -1)], some 2)], some 2, 1, [[112, 114, 101, 115, 115], [116, 105, 99, 107]], some 2, 1, [[111, 110], [111, 102, 102]], some 2, 1, [[100, 97, 114, 107], [108, 105, 116]], some 2⟩
theorem qdN9 : PC Tryz.prog G0 53 [] (.agg lampG.A) := by
 unfold lampG GS.A;refine wb0 2 13 [.cell 0 27] Tryz.func53 rfl rfl rfl (by simp) ?_;intro s hz;clear hz;repeat' (first|(refine nv ?_ <;> (try simp (disch := try exact discB) only [push_cast, simprocAttr, Nat.add_zero]))|(with_reducible first|refine gG ?_ ?_|refine ⟨fun h => ?_, fun h => ?_⟩ <;> try omega|refine andG ?_)|simp (disch := try exact discB) only [push_cast, simprocAttr, Nat.add_zero])
 exact ⟨rfl, rfl, rfl, rfl⟩
end Go.Proofs
