import Derived.Test.YtlpjemobbjijdaaGreatDoorL1
import Derived.Test.YtlpjemobbjijdaaGreatDoorV33
import Derived.Lib.IndexAny
namespace Go.Proofs
open Go Go.V
set_option linter.unusedVariables false
set_option linter.unusedSimpArgs false
set_option maxHeartbeats 0
set_option maxRecDepth 100000 in
theorem vdc9 : PC Tryz.prog G0 114 [] (.agg [.int .i64 (-1), .int .i64 (-1)]) := by
 refine wb0 0 2 [.cell 0 70] Tryz.func114 rfl rfl rfl (by simp) ?_;intro s hz;clear hz;repeat' (first|refine nv ?_|(with_reducible first|refine gG ?_ ?_|refine ⟨fun h => ?_, fun h => ?_⟩ <;> try omega|refine andG ?_)|simp (disch := try exact discB) only [push_cast, simprocAttr, Nat.add_zero])
def fitE (o n : Int) (e : Edg) : Bool := (decide (e.1 = -1) && decide (e.2 = -1)) || (decide (0 ≤ e.1) && decide (e.1 < n) && decide (0 ≤ e.2) && decide (e.2 < o))
def idxL {α : Type} (p : α → Bool) : List α → Int
 | [] => -1
 | x :: xs => if p x then 0 else if idxL p xs < 0 then -1 else idxL p xs + 1
theorem qac9 {α : Type} (p : α → Bool) (xs : List α) : decide (0 ≤ idxL p xs) = xs.any p := by
 induction xs with
 | nil => simp [idxL]
 | cons x xs ih =>
  rw [idxL, List.any_cons, ← ih];cases p x
  ·simp only [l'I, if_false, n'l];split
   ·rename_i h; rw [decide_eq_false (by omega), decide_eq_false (by omega)]
   ·rename_i h; rw [decide_eq_true (by omega), decide_eq_true (by omega)]
  ·simp
theorem xC0 {α : Type} (p : α → Bool) (d : α) : ∀ (xs : List α) (k : Nat), (∀ j, j < k → p (xs.getD j d) = false) → k < xs.length → p (xs.getD k d) = true → idxL p xs = k
 | [], _, _, h, _ => by simp at h
 | x :: xs, 0, _, _, h => by simp at h; simp [idxL, h]
 | x :: xs, k + 1, hb, hk, h => by
  have h0 : p x = false := by simpa using hb 0 (by omega)
  have := xC0 p d xs k (fun j hj => by simpa using hb (j + 1) (by omega)) (by simpa using hk) (by simpa using h);rw [idxL, h0, this];simp;omega
theorem xaB9 {α : Type} (p : α → Bool) (d : α) (xs : List α) (hb : ∀ j, j < xs.length → p (xs.getD j d) = false) : idxL p xs = -1 := by
 induction xs with
 | nil => rfl
 | cons x xs ih =>
  have h0 : p x = false := by simpa using hb 0 (by simp)
  have := ih fun j hj => by simpa using hb (j + 1) (by simpa using hj)
  rw [idxL, h0, this]; simp
set_option maxRecDepth 100000 in
theorem wdK9 (i o : Int) (l : List Row) (c : Option Nat) (e : Edg) (hl : l.length ≤ 1000000) : PC Tryz.prog G0 82 [mA i o l c, .agg (eA e)] (.bool (fitE o l.length e)) := by
 obtain ⟨x, y⟩ := e;unfold eA mA fitE;by_cases h : x = -1 ∧ y = -1
 ·obtain ⟨rfl, rfl⟩ := h;refine wb0 0 33 [.tmp 4] Tryz.func82 rfl rfl rfl (by simp) ?_;intro s ⟨a0, a1, hz⟩;simp only [l'g, Nat.reduceAdd] at a1;clear hz;repeat' (first|refine nv ?_|(with_reducible first|refine gG ?_ ?_|refine ⟨fun h => ?_, fun h => ?_⟩ <;> try omega|refine andG ?_)|refine cp vdc9 ?_|simp (disch := try exact discB) only [push_cast, simprocAttr, a0, a1, Int.reduceNeg, Int.reduceEq])
  all_goals omega
 ·have hA : (decide (x = -1) && decide (y = -1)) = false := by simpa using h
  refine wb0 0 33 [.tmp 4] Tryz.func82 rfl rfl rfl (by simp) ?_;intro s ⟨a0, a1, hz⟩;simp only [l'g, Nat.reduceAdd] at a1;clear hz;repeat' (first|refine nv ?_|(with_reducible first|refine gG ?_ ?_|refine ⟨fun h => ?_, fun h => ?_⟩ <;> try omega|refine andG ?_)|refine cp vdc9 ?_|simp (disch := try exact discB) only [push_cast, simprocAttr, a0, a1, hA])
  all_goals omega
def qeq9 (i o : Int) (l : List Row) (c : Option Nat) : Blk := .row 3 24 [[.int .i64 i, .int .i64 o, .sl 1 (kb0 l) c]]
set_option maxRecDepth 100000 in
theorem kdr9 (i o : Int) (l : List Row) (c : Option Nat) (e : Edg) (hl : l.length ≤ 1000000) (b : Nat) (H : List Blk) (hb : H[b]? = some (.row 3 24 [[.int .i64 i, .int .i64 o, .sl 1 (kb0 l) c]])) (hbel : H.all (Blk.below H.length) = true) : qb0 Tryz.prog G0 81 [.agg (eA e), .ptr b 0 0 1] H (.bool (!fitE o l.length e)) H := by
 have hF := wdK9 i o l c e hl;unfold mA at hF;obtain ⟨x, y⟩ := e;unfold eA at *;have hb' : ∀ B, (H ++ [B])[b]? = some (Blk.row 3 24 [[.int .i64 i, .int .i64 o, .sl 1 (kb0 l) c]]) := fun B => by rw [l'f (l'c.1 hb).1]; exact hb
 refine kdn9 (K := [.row 2 70 [[.int .i64 x, .int .i64 y]]]) ?_ hbel rfl;refine zp0 8 [.tmp 3] Tryz.func81 rfl rfl rfl (by simp) ?_;intro s ⟨a0, a1, hz⟩;simp only [l'g, Nat.reduceAdd] at a1;clear hz;repeat' (first|refine nv ?_|(with_reducible first|refine gG ?_ ?_|refine ⟨fun h => ?_, fun h => ?_⟩ <;> try omega|refine andG ?_)|refine cp hF ?_ (hi := by (simp [idsL, idsE, AV.ids, eA, we0]))|simp (disch := try exact discB) only [push_cast, simprocAttr, a0, a1, hb'])
set_option maxRecDepth 100000 in
theorem xbu9 (p : Edg → Bool) (g : FuncId) (cap : List AV) (r : List Edg) (c : Option Nat) (H : List Blk) (hent : qa0 Tryz.prog g = true) (hp : ∀ x, qb0 Tryz.prog G0 g (.agg (eA x) :: cap) H (.bool (p x)) H) (hx : r.length ≤ 1000000) :
  qb0 Tryz.prog G0 113 [.sl 2 (rowA r) c, .fn g cap] H (.int .i64 (idxL p r)) H := by
 refine zp0 19 [.tmp 4] Tryz.func113 rfl rfl rfl (by simp) ?_;intro s ⟨a0, a1, hz⟩;simp only [l'g, Nat.reduceAdd] at a1;clear hz;repeat' (first|refine nv ?_|(with_reducible first|refine gG ?_ ?_|refine ⟨fun h => ?_, fun h => ?_⟩ <;> try omega|refine andG ?_)|simp (disch := try exact discB) only [push_cast, simprocAttr, a0, a1])
 refine go_loop rfl (fun mz s' H' => ∃ k : Nat, k ≤ r.length ∧ mz = r.length - k ∧ H' = H ∧ s' 0 = .sl 2 (rowA r) c ∧ s' 1 = .fn g cap ∧ s' 7 = .int .i64 r.length ∧ s' 8 = .int .i64 k ∧ ∀ j, j < k → p (r.getD j (0, 0)) = false) (m := r.length) (by first|exact va0|fail) (Weak.refl _ _) ⟨0, by omega, by omega, rfl, ?_⟩ ?_
 ·simp (disch := try exact discB) only [push_cast, simprocAttr, a0, a1];all_goals exact fun j hj => by omega
 ·rintro mz s' H' ⟨k, hk, rfl, rfl, b0, b1, b7, b8, ik⟩;rcases l'h k r.length with hlt|hge
  ·have e1 := wn0 r k hlt;have hP := hp (r.getD k (0, 0));have hn := xC0 p (0, 0) r k ik hlt;have hs := fun h => wE0 ik (show p (r.getD k (0, 0)) = false from h);generalize r.getD k (0, 0) = x at *;obtain ⟨x, y⟩ := x;simp only [eA] at e1 hP;repeat' (first|refine nv ?_|(with_reducible first|refine gG ?_ ?_|refine ⟨fun h => ?_, fun h => ?_⟩ <;> try omega|refine andG ?_)|refine cl hP ?_|simp (disch := try exact discB) only [push_cast, simprocAttr, b0, b1, b7, b8, e1, hent])
   ·rw [hn h]
   ·refine wa0 (r.length - (k + 1)) (by omega) (by first|exact va0|fail) ⟨k + 1, by omega, rfl, rfl, ?_⟩;simp (disch := try exact discB) only [push_cast, simprocAttr, b0, b1, b7, b8, e1, hent];exact hs h
  ·obtain rfl : k = r.length := by omega
   repeat' (first|refine nv ?_|(with_reducible first|refine gG ?_ ?_|refine ⟨fun h => ?_, fun h => ?_⟩ <;> try omega|refine andG ?_)|refine cl hP ?_|simp (disch := try exact discB) only [push_cast, simprocAttr, b0, b1, b7, b8])
   rw [xaB9 p (0, 0) r ik]
set_option maxRecDepth 100000 in
theorem vbT9 (p : Edg → Bool) (g : FuncId) (cap : List AV) (r : List Edg) (c : Option Nat) (H : List Blk) (hent : qa0 Tryz.prog g = true) (hp : ∀ x, qb0 Tryz.prog G0 g (.agg (eA x) :: cap) H (.bool (p x)) H) (hx : r.length ≤ 1000000) :
  qb0 Tryz.prog G0 80 [.sl 2 (rowA r) c, .fn g cap] H (.bool (r.any p)) H := by
 refine zp0 9 [.tmp 4] Tryz.func80 rfl rfl rfl (by simp) ?_;intro s ⟨a0, a1, hz⟩;simp only [l'g, Nat.reduceAdd] at a1;clear hz;repeat' (first|refine nv ?_|(with_reducible first|refine gG ?_ ?_|refine ⟨fun h => ?_, fun h => ?_⟩ <;> try omega|refine andG ?_)|refine cl (xbu9 p g cap r c H hent hp hx) ?_|simp (disch := try exact discB) only [push_cast, simprocAttr, a0, a1])
 exact congrArg AV.bool (qac9 p r)
def waj9 (i o n : Int) (r : List Edg) : Bool := decide ((r.length : Int) = i) && r.all (fitE o n)
def zk0 (i o : Int) (l : List Row) : Int := if 16 < i ∨ 16 < o ∨ 64 < l.length then 3 else if i < 1 ∨ o < 1 ∨ l.length < 1 then 1 else if ∀ j, j < l.length → waj9 i o l.length (l.getD j ([], none)).1 = true then 0 else 1
theorem qds9 {α : Type} (p : α → Bool) (l : List α) : (l.any fun x => !p x) = !l.all p := by
 induction l with
 | nil => rfl
 | cons x xs ih => simp [ih]
set_option maxRecDepth 100000 in
theorem wbu9 (i o : Int) (l : List Row) (z : Nat) (c : Option Nat) (hz : l = [] ∨ z = 1) (hl : l.length ≤ 1000000) (hr : ∀ j, j < l.length → (l.getD j ([], none)).1.length ≤ 1000000) : PC Tryz.prog G0 37 [.agg [.int .i64 i, .int .i64 o, .sl z (kb0 l) c]] (.int .i64 (zk0 i o l)) := by
 refine wb0 1 51 [.tmp 2] Tryz.func37 rfl rfl rfl (by simp) ?_;intro s ⟨a0, hz⟩;clear hz;repeat' (first|refine nv ?_|(with_reducible first|refine gG ?_ ?_|refine ⟨fun h => ?_, fun h => ?_⟩ <;> try omega|refine andG ?_)|simp (disch := try exact discB) only [push_cast, simprocAttr, a0])
 ·congr 1
  rw [zk0, if_pos (by omega)]
 ·congr 1
  rw [zk0, if_neg (by omega), if_pos (by omega)]
 ·rename_i h1;obtain rfl : z = 1 := by
   rcases hz with q|q
   ·rw [q] at h; simp at h
   ·exact q
  refine go_loop rfl (fun mz s' H' => ∃ k : Nat, k ≤ l.length ∧ mz = l.length - k ∧ H' = [.row 3 24 [[.int .i64 i, .int .i64 o, .sl 1 (kb0 l) c]]] ∧ s' 1 = .ptr 0 0 0 1 ∧ s' 34 = .sl 1 (kb0 l) c ∧ s' 35 = .int .i64 l.length ∧ s' 36 = .int .i64 k ∧ ∀ j, j < k → waj9 i o l.length (l.getD j ([], none)).1 = true) (m := l.length) (by first|exact va0|fail) (Weak.refl _ _) ⟨0, by omega, by omega, rfl, ?_⟩ ?_
  ·simp (disch := try exact discB) only [push_cast, simprocAttr, a0];all_goals exact fun j hj => by omega
  ·rintro mz s' H' ⟨k, hk, rfl, rfl, b1, b34, b35, b36, ik⟩;rcases l'h k l.length with hlt|hge
   ·have e1 := vo0 l k hlt;have hq := hr k hlt;have hs := wE0 (P := fun j => waj9 i o l.length (l.getD j ([], none)).1 = true) (k := k) ik;have hno : waj9 i o l.length (l.getD k ([], none)).1 = false → zk0 i o l = 1 := fun h => by
     rw [zk0, if_neg (by omega), if_neg (by omega), if_neg];intro hh;rw [hh k hlt] at h; cases h
    have hC := vbT9 (fun x => !fitE o l.length x) 81 [.ptr 0 0 0 1] (l.getD k ([], none)).1 (l.getD k ([], none)).2 [.row 3 24 [[.int .i64 i, .int .i64 o, .sl 1 (kb0 l) c]]] en81 (fun x => kdr9 i o l c x hl 0 _ rfl (by simp [Blk.below, idsE, idsL, AV.ids])) hq;simp only [qds9, waj9] at hC hs hno;generalize (l.getD k ([], none)).2 = cc at *;generalize (l.getD k ([], none)).1 = r at *;repeat' (first|refine nv ?_|(with_reducible first|refine gG ?_ ?_|refine ⟨fun h => ?_, fun h => ?_⟩ <;> try omega|refine andG ?_)|refine cl hC ?_|simp (disch := try exact discB) only [push_cast, simprocAttr, b1, b34, b35, b36, e1])
    ·congr 1
     refine (hno ?_).symm;rcases h with h|h <;> simp [h]
    ·refine wa0 (l.length - (k + 1)) (by omega) (by first|exact va0|fail) ⟨k + 1, by omega, rfl, rfl, ?_⟩;simp (disch := try exact discB) only [push_cast, simprocAttr, b1, b34, b35, b36, e1];refine hs ?_;simp [h.1, h.2]
   ·obtain rfl : k = l.length := by omega
    repeat' (first|refine nv ?_|(with_reducible first|refine gG ?_ ?_|refine ⟨fun h => ?_, fun h => ?_⟩ <;> try omega|refine andG ?_)|refine cl hC ?_|simp (disch := try exact discB) only [push_cast, simprocAttr, b1, b34, b35, b36])
    congr 1
    rw [zk0, if_neg (by omega), if_neg (by omega), if_pos ik]
set_option maxRecDepth 100000
theorem zcq9 (s0 : Bs) : vx0 s0 = (Lib.hasPrefix s0 [45, 62] || (Lib.hasPrefix s0 [60, 61] || (Lib.hasPrefix s0 [62, 61] || (Lib.hasPrefix s0 [33, 61] || Lib.hasPrefix s0 [58, 61])))) := by
 match s0 with
 | [] => rfl
 | [c] => simp [vx0, Lib.hasPrefix, List.isPrefixOf]
 | c :: d :: r =>
  simp only [vx0, wI0, Lib.hasPrefix, List.isPrefixOf, n'B];rw [l'X];simp only [l's, l'a, decide_eq_true_eq, beq_iff_eq];constructor
  ·rintro (⟨rfl, rfl⟩|⟨(((rfl|rfl)|rfl)|rfl), rfl⟩) <;> simp
  ·rintro (⟨rfl, rfl⟩|⟨rfl, rfl⟩|⟨rfl, rfl⟩|⟨rfl, rfl⟩|⟨rfl, rfl⟩) <;> simp
theorem zac9 {s0 : Bs} {a b : UInt8} (h : Lib.hasPrefix s0 [a, b] = true) : s0.take 2 = [a, b] := by
 match s0, h with
 | [], h => cases h
 | [c], h => simp [Lib.hasPrefix] at h
 | c :: d :: r, h =>
  simp only [Lib.hasPrefix, List.isPrefixOf, n'B, l'a, beq_iff_eq] at h;obtain ⟨rfl, rfl⟩ := h; rfl
theorem zds9 (c : UInt8) : (0 ≤ Lib.indexByte sngs c) = (sngB c = true) := by
 have := Lib.contains_iff_indexByte sngs c;apply propext;unfold sngB;rw [this]; simp
theorem xaM9 (s0 : Bs) : s0.headD 0 = s0.getD 0 0 := by cases s0 <;> rfl
theorem wbG9 (s : Bs) (q : vx0 s = false) : zm0 s = if s = [] then 0 else if sngB (s.getD 0 0) = true then 1 else 0 := by
 unfold zm0;rw [if_neg (by rw [q]; decide)];cases s <;> rfl
theorem kbT9 : PC Tryz.prog G0 128 [.str []] (.str []) := by
 have q : ∀ (a b : UInt8) (H : List Blk), qb0 Tryz.prog G0 152 [.str [], .str [a, b]] H (.bool false) H := fun a b H => wbT9 H [] [a, b];refine wb0 0 24 [.tmp 2] Tryz.func128 rfl rfl rfl (by simp) ?_;intro s ⟨a0, hz⟩;clear hz;repeat' (first|(first|(with_reducible refine vb0 (p := [0, 1, 0, 1]) ?_)|refine nav ?_|(refine g0_ ?_; first|refine goD ?_))|(with_reducible first|refine gG ?_ ?_|refine ⟨fun h => ?_, fun h => ?_⟩ <;> try omega|refine andG ?_)|refine cl (q _ _ _) ?_|(refine ⟨AV.str [], ?_⟩; refine kY0 ?_)|simp (disch := try exact discB) only [push_cast, simprocAttr, a0, evS, G0_1, kbF9])
 refine Halt.mk ?_;repeat' (first|(first|refine nav ?_|(refine g0_ ?_; first|refine goD ?_|refine zf0 6 rfl ?_))|(with_reducible first|refine gG ?_ ?_|refine ⟨fun h => ?_, fun h => ?_⟩ <;> try omega|refine andG ?_)|refine cl (q _ _ _) ?_|(refine ⟨AV.str [], ?_⟩; refine kY0 ?_)|simp (disch := try exact discB) only [push_cast, simprocAttr, a0, Int.reduceToNat])
theorem qbU9 (s0 : Bs) (h0 : ¬ s0 = []) : PC Tryz.prog G0 128 [.str s0] (.str (s0.take (zm0 s0))) := by
 have hp := zcq9 s0;have t1 := @zac9 s0 45 62;have t2 := @zac9 s0 60 61;have t3 := @zac9 s0 62 61;have t4 := @zac9 s0 33 61;have t5 := @zac9 s0 58 61;have q1 := fun H => wbT9 H s0 [45, 62];have q2 := fun H => wbT9 H s0 [60, 61];have q3 := fun H => wbT9 H s0 [62, 61];have q4 := fun H => wbT9 H s0 [33, 61];have q5 := fun H => wbT9 H s0 [58, 61];have hm : vx0 s0 = true → zm0 s0 = 2 := fun q => by unfold zm0; rw [if_pos q]
 have hn := wbG9 s0;have hi := fun H => vdJ9 H sngs (s0.getD 0 0) ((s0.getD 0 0).toNat : Int) rfl;have hx := zds9 (s0.getD 0 0);generalize Lib.indexByte sngs (s0.getD 0 0) = ix at *;generalize Lib.hasPrefix s0 [45, 62] = x1 at *;generalize Lib.hasPrefix s0 [60, 61] = x2 at *;generalize Lib.hasPrefix s0 [62, 61] = x3 at *;generalize Lib.hasPrefix s0 [33, 61] = x4 at *;generalize Lib.hasPrefix s0 [58, 61] = x5 at *;have hcl : ∀ (a b : UInt8) (x : Bool), vx0 s0 = true → (x = true → s0.take 2 = [a, b]) → x = true → AV.str [a, b] = AV.str (s0.take (zm0 s0)) := fun a b x h1 h2 h3 => by rw [hm h1, h2 h3]
 refine wb0 0 24 [.tmp 2] Tryz.func128 rfl rfl rfl (by simp) ?_;intro s ⟨a0, hz⟩;clear hz;repeat' (first|(first|(with_reducible refine vb0 (p := [0, 1, 0, 1]) ?_)|refine nav ?_|(refine g0_ ?_; first|refine goD ?_))|(with_reducible first|refine gG ?_ ?_|refine ⟨fun h => ?_, fun h => ?_⟩ <;> try omega|refine andG ?_)|refine cl (q1 _) ?_|refine cl (q2 _) ?_|refine cl (q3 _) ?_|refine cl (q4 _) ?_|refine cl (q5 _) ?_|refine cl (hi _) ?_|simp (disch := try exact discB) only [push_cast, simprocAttr, a0, evS, G0_1, kbF9])
 refine Halt.mk ?_;have hl : (0 : Int) < s0.length := by have := n'm.2 h0; omega
 have hl1 : 1 ≤ s0.length := by omega
 repeat' (first|(first|refine nav ?_|(refine g0_ ?_; first|refine goD ?_|refine zf0 6 rfl ?_))|(with_reducible first|refine gG ?_ ?_|refine ⟨fun h => ?_, fun h => ?_⟩ <;> try omega|refine andG ?_)|refine cl (q1 _) ?_|refine cl (q2 _) ?_|refine cl (q3 _) ?_|refine cl (q4 _) ?_|refine cl (q5 _) ?_|refine cl (hi _) ?_|simp (disch := try exact discB) only [push_cast, simprocAttr, a0, hx, Int.reduceToNat, h0, hl])
 ·exact hcl _ _ _ (by rw [hp, h]; rfl) t1 h
 ·rename_i h1; exact hcl _ _ _ (by rw [hp, h1, h]; rfl) t2 h
 ·rename_i h1 h2; exact hcl _ _ _ (by rw [hp, h1, h2, h]; rfl) t3 h
 ·rename_i h1 h2 h3; exact hcl _ _ _ (by rw [hp, h1, h2, h3, h]; rfl) t4 h
 ·rename_i h1 h2 h3 h4; exact hcl _ _ _ (by rw [hp, h1, h2, h3, h4, h]; rfl) t5 h
 ·rename_i h1 h2 h3 h4 h5;rw [hn (by rw [hp, h1, h2, h3, h4, h5]; rfl), if_neg h0, if_pos h]
 ·rename_i h1 h2 h3 h4 h5;rw [hn (by rw [hp, h1, h2, h3, h4, h5]; rfl), if_neg h0, if_neg h];rfl
theorem vdK9 (s0 : Bs) : PC Tryz.prog G0 128 [.str s0] (.str (s0.take (zm0 s0))) := by
 by_cases h : s0 = []
 ·subst h; exact kbT9
 ·exact qbU9 s0 h
end Go.Proofs
