import Derived.Test.YtlpjemobbjijdaaGreatDoorS23
import Derived.Test.YtlpjemobbjijdaaGreatDoorAP9
namespace Go.Proofs
open Go Go.V
set_option linter.unusedVariables false
set_option linter.unusedSimpArgs false
set_option maxHeartbeats 0
set_option maxRecDepth 100000
def qW0 {α : Type} (kA : α → AV) : Nat → List α → List (AV × AV)
 | _, [] => []
 | n, x :: d => (kA x, .int .i64 n) :: qW0 kA (n + 1) d
theorem waC9 {α : Type} [BEq α] [LawfulBEq α] {kA : α → AV} (hs : ∀ x y, qB0 (kA x) (kA y) = (x == y)) (z : AV) (x : α) : ∀ (d : List α) (n : Nat), was9 z (qW0 kA n d) (kA x) = if x ∈ d then .int .i64 ((n + d.idxOf x : Nat) : Int) else z
 | [], n => by simp [was9, qW0]
 | y :: d, n => by
  have ih := waC9 hs z x d (n + 1);simp only [was9, qW0, List.find?_cons, hs] at ih ⊢;by_cases h : x = y
  ·subst h; simp
  ·have h' : ¬ y = x := fun q => h q.symm;rw [beq_eq_false_iff_ne.2 h];simp only [l'w, h, false_or, List.idxOf_cons, beq_eq_false_iff_ne.2 h', cond_false] at ih ⊢;rw [ih];split
   ·congr 2; omega
   ·rfl
theorem qaN9 {α : Type} [BEq α] [LawfulBEq α] {kA : α → AV} (hs : ∀ x y, qB0 (kA x) (kA y) = (x == y)) (x : α) : ∀ (d : List α) (n : Nat), hasA (qW0 kA n d) (kA x) = decide (x ∈ d)
 | [], n => by simp [hasA, qW0]
 | y :: d, n => by
  have ih := qaN9 hs x d (n + 1);simp only [hasA, qW0, List.any_cons, hs] at ih ⊢;rw [ih, l'X];simp
theorem zaN9 {α : Type} [BEq α] [LawfulBEq α] {kA : α → AV} (hs : ∀ x y, qB0 (kA x) (kA y) = (x == y)) (x : α) : ∀ (d : List α) (n : Nat), ¬ x ∈ d → updA (qW0 kA n d) (kA x) (.int .i64 ((n + d.length : Nat) : Int)) = qW0 kA n (d ++ [x])
 | [], n, _ => by simp [updA, qW0]
 | y :: d, n, h => by
  simp only [l'w, not_or] at h;have ih := zaN9 hs x d (n + 1) h.2;simp only [qW0, updA, hs, beq_eq_false_iff_ne.2 h.1, l'I, if_false, List.cons_append];rw [← ih];congr 4
  simp only [List.length_cons]; omega
theorem zbx9 {α : Type} {kA : α → AV} {kT : TypeId} (x : α) (h1 : eqTy Tryz.prog 8 kT = true) (h2 : keyA Tryz.prog 8 kT (kA x) = true) (h3 : ∀ y, (eqA Tryz.prog 8 kT (kA x) (kA y)) = (true, qB0 (kA x) (kA y))) : ∀ (d : List α) (n : Nat), vaO9 Tryz.prog kT (qW0 kA n d) (kA x) = true := fun d n => by
 simp only [vaO9, h1, h2, n'k];have : ∀ (d : List α) (n : Nat), ((qW0 kA n d).all fun p => (eqA Tryz.prog 8 kT (kA x) p.1).1 && ((eqA Tryz.prog 8 kT (kA x) p.1).2 == qB0 (kA x) p.1)) = true := fun d => by
  induction d with
  | nil => intro n; rfl
  | cons y d ih => intro n; rw [qW0, List.all_cons, ih]; simp [h3]
 exact this d n
theorem xad9 (x y : Bs) : qB0 (.str x) (.str y) = (x == y) := by
 simp only [qB0, vbW9]
theorem qdw9 (x y : Bs) : eqA Tryz.prog 8 9 (.str x) (.str y) = (true, qB0 (.str x) (.str y)) := by
 rw [xad9, eqA]
 ·congr 1; rw [l'X]; simp
 ·simp [shp, ti9]
theorem wcU9 (x : Bs) : keyA Tryz.prog 8 9 (.str x) = true := by
 rw [keyA];simp [shp, ti9]
theorem xek9 : eqTy Tryz.prog 8 9 = true := by kernel_rfl
def nmS (l : List Bs) : List (AV × AV) := qW0 AV.str 0 l
theorem wdd9 (l : List Bs) (x : Bs) : vaO9 Tryz.prog 9 (nmS l) (.str x) = true := zbx9 x xek9 (wcU9 x) (fun y => qdw9 x y) l 0
theorem zdw9 (l : List Bs) (x : Bs) (h : ¬ x ∈ l) : updA (nmS l) (.str x) (.int .i64 l.length) = nmS (l ++ [x]) := by
 have := zaN9 xad9 x l 0 h;rw [l'g] at this; exact this
theorem vcU9 (l : List Bs) (z : AV) (x : Bs) : was9 z (nmS l) (.str x) = if x ∈ l then .int .i64 (l.idxOf x : Nat) else z := by
 have := waC9 xad9 z x l 0;rw [l'g] at this; exact this
theorem xdw9 (l : List Bs) (x : Bs) : hasA (nmS l) (.str x) = decide (x ∈ l) := qaN9 xad9 x l 0
theorem kcU9 (l : List Bs) (c : Option Nat) (B0 : Blk) (hl : l.length ≤ 1000000) (hnd : l.Nodup) : qb0 Tryz.prog G0 56 [.sl 1 (strs l) c] [B0] (.mp 1) [B0, .ob (.map 9 3 (nmS l))] := by
 refine zp0 19 [.tmp 2] Tryz.func56 rfl rfl rfl (by simp) ?_;intro s ⟨a0, hz⟩;clear hz;repeat' (first|refine nv ?_|(with_reducible first|refine gG ?_ ?_|refine ⟨fun h => ?_, fun h => ?_⟩ <;> try omega|refine andG ?_)|simp (disch := try exact discB) only [push_cast, simprocAttr, a0])
 refine go_loop rfl (fun mz s' H' => ∃ k : Nat, k ≤ l.length ∧ mz = l.length - k ∧ H' = [B0, .ob (.map 9 3 (nmS (l.take k)))] ∧ s' 3 = .mp 1 ∧ s' 7 = .sl 1 (strs l) c ∧ s' 8 = .int .i64 l.length ∧ s' 9 = .int .i64 k) (m := l.length) (by first|exact va0|fail) (Weak.refl _ _) ⟨0, by omega, by omega, rfl, ?_⟩ ?_
 ·simp (disch := try exact discB) only [push_cast, simprocAttr, a0]
 ·rintro mz s' H' ⟨k, hk, rfl, rfl, b3, b7, b8, b9⟩;rcases l'h k l.length with hlt|hge
  ·have e1 := vc0 l k hlt;have hsn := wy0 l k hlt;have hno : ¬ l.getD k [] ∈ l.take k := fun h => by
    obtain ⟨j, hj, e⟩ := n'F h;rw [l'x] at hj;rw [List.getElem_take, l'b, l'e hlt] at e;have := (z'n hnd).1 e;omega
   have hu := zdw9 (l.take k) (l.getD k []) hno;have hok := wdd9 (l.take k) (l.getD k []);rw [← hsn, l'x, n'q (Nat.le_of_lt hlt)] at hu;generalize l.getD k [] = x at *;generalize nmS (l.take k) = M at *;repeat' (first|refine nv ?_|(with_reducible first|refine gG ?_ ?_|refine ⟨fun h => ?_, fun h => ?_⟩ <;> try omega|refine andG ?_)|simp (disch := try exact discB) only [push_cast, simprocAttr, b3, b7, b8, b9, e1, hu, hok])
   refine wa0 (l.length - (k + 1)) (by omega) (by first|exact va0|fail) ⟨k + 1, by omega, rfl, rfl, ?_⟩;simp (disch := try exact discB) only [push_cast, simprocAttr, b3, b7, b8, b9, e1, hu, hok]
  ·obtain rfl : k = l.length := by omega
   rw [l'E];repeat' (first|refine nv ?_|(with_reducible first|refine gG ?_ ?_|refine ⟨fun h => ?_, fun h => ?_⟩ <;> try omega|refine andG ?_)|simp (disch := try exact discB) only [push_cast, simprocAttr, b3, b7, b8, b9])
theorem wdw9 (H : List Blk) (s sep : List UInt8) (hs : s.length < 4294967281) (h1 : 1 ≤ sep.length) : qb0 Tryz.prog G0 54 [.str s, .str sep] H (.sl 1 (strs (kv0 s sep)) (some (kv0 s sep).length)) H :=
 qcJ9 (gm := 0) rfl (fun s sep m w hs hm h1 => Tryz.strings_Split s sep m w hs hm h1) s sep hs h1
theorem wd55 (s0 : Bs) (hs : s0.length ≤ 1000000) : PC Tryz.prog G0 55 [.str s0] (.bool (!decide (chkT 1 s0 = 0))) := by
 have h1 := kbG9 s0 hs;generalize decide (chkT 1 s0 = 0) = b at *;refine wb0 0 6 [.tmp 2] Tryz.func55 rfl rfl rfl (by simp) ?_;intro s ⟨a0, hz⟩;clear hz;repeat' (first|refine nv ?_|(with_reducible first|refine gG ?_ ?_|refine ⟨fun h => ?_, fun h => ?_⟩ <;> try omega|refine andG ?_)|refine cp h1 ?_|simp (disch := try exact discB) only [push_cast, simprocAttr, a0])
theorem xaN9 (c : UInt8) : ∀ s : Bs, (splitC c s).length ≤ s.length + 1 ∧ ∀ p ∈ splitC c s, p.length ≤ s.length
 | [] => by simp [splitC]
 | b :: r => by
  obtain ⟨h1, h2⟩ := xaN9 c r;by_cases h : b = c
  ·subst h;rw [xaj9];refine ⟨by simp; omega, fun p hp => ?_⟩;rcases l'w.1 hp with rfl|hp
   ·simp
   ·have := h2 p hp; simp; omega
  ·cases hq : splitC c r with
   | nil => exact absurd hq (zL0 c r)
   | cons p l =>
    rw [hq] at h1 h2;rw [xV0 h hq];refine ⟨by simp at h1 ⊢; omega, fun q hq2 => ?_⟩;rcases l'w.1 hq2 with rfl|hq2
    ·have := h2 p l'm; simp; omega
    ·have := h2 q (l'v _ hq2); simp; omega
def wad9 (ins l : List Bs) : List Int := l.map fun s => ((ins.idxOf s : Nat) : Int)
def kbU9 (ins : List Bs) (s : Bs) : List Int × Int :=
 if 65536 < s.length then ([], 3) else if s = [45] then ([], 0) else
  if (splitC 32 s).any (fun n => !decide (chkT 1 n = 0)) = true then ([], 4)
  else if (splitC 32 s).any (fun n => !decide (n ∈ ins)) = true then ([], 7)
  else if 256 < (splitC 32 s).length then ([], 3) else (wad9 ins (splitC 32 s), 0)
def xbx9 (r : List Int × Int) : AV := .tup [if r.1 = [] then .sl 0 [] (some 0) else .sl 1 (ints r.1) (some r.1.length), .int .i64 r.2]
theorem zM0 (e : Int) : xbx9 ([], e) = .tup [.sl 0 [] (some 0), .int .i64 e] := rfl
def vad9 (l : List Int) (k : Nat) : List (List AV) := ints (l.take k ++ List.replicate (l.length - k) 0)
theorem qbV9 (l : List Int) : vad9 l 0 = List.replicate l.length [.int .i64 0] := by simp [vad9, ints]
theorem kcu9 (l : List Int) : vad9 l l.length = ints l := by simp [vad9]
theorem qcv9 (l : List Int) (k : Nat) (h : k ≤ l.length) : (vad9 l k).length = l.length := by simp [vad9, ints]; omega
theorem zcv9 (l : List Int) (k : Nat) (h : k < l.length) : (vad9 l k).set k [.int .i64 (l.getD k 0)] = vad9 l (k + 1) := by
 have e1 : (l.take k).length = k := by simp; omega
 have e2 : l.take (k + 1) = l.take k ++ [l.getD k 0] := by
  rw [n'M h, l'b, l'e h]; rfl
 rw [vad9, vad9, e2, show l.length - k = (l.length - (k + 1)) + 1 by omega, List.replicate_succ];simp only [ints, n'c, List.map_cons, List.map_nil, l't, List.singleton_append];rw [l'O _ _ (by simp; omega), l'B, e1, l'N]; rfl
theorem xcv9 (l : List Int) (k : Nat) (h : k < l.length) : (vad9 l k).getD k [] = [.int .i64 0] := by
 have e1 : (l.take k).length = k := by simp; omega
 rw [vad9, show l.length - k = (l.length - (k + 1)) + 1 by omega, List.replicate_succ];simp only [ints, n'c, List.map_cons];rw [l'b, l'q (by simp; omega), l'B, e1, l'N]; rfl
theorem vdw9 : kbK9 Tryz.prog 3 = .int .i64 0 := by kernel_rfl
theorem wcv9 (ins l : List Bs) : (wad9 ins l).length = l.length := by simp [wad9]
theorem vcv9 (ins l : List Bs) (k : Nat) (h : k < l.length) : (wad9 ins l).getD k 0 = (ins.idxOf (l.getD k []) : Nat) := by simp [wad9, h]
theorem qbI9 (x : GS) (hx : x.Ok) (s0 : Bs) (h0 : chkS x = 0) : PC Tryz.prog G0 17 [.agg x.A, .str s0] (xbx9 (kbU9 x.ins s0)) := by
 have hc := vV0 x hx;rw [h0] at hc;have hid := fun p => vr0 p x;have hv := chkS_zero.1 h0;obtain ⟨l1, l2, l3, l4, l5, l6⟩ := hv.cnts;have hz1 : x.zi = 1 := hx.i.resolve_left (by intro e; rw [e] at l4; simp at l4);have hnd : x.ins.Nodup := hv.nd _ (by simp [GS.lists]);have hpl := fun B0 => kcU9 x.ins x.ci B0 (by omega) hnd;unfold GS.A at *;rw [hz1] at hc ⊢;unfold kbU9;by_cases hbig : 65536 < s0.length
 ·rw [if_pos hbig];rw [zM0];refine wb0 0 58 [.tmp 4, .tmp 5] Tryz.func17 rfl rfl rfl (by simp) ?_;intro s ⟨a0, a1, hz⟩;simp only [l'g, Nat.reduceAdd] at a1;clear hz;repeat' (first|refine nv ?_|(with_reducible first|refine gG ?_ ?_|refine ⟨fun h => ?_, fun h => ?_⟩ <;> try omega|refine andG ?_)|refine cp hc ?_ (hi := by (simp [idsL, idsE, AV.ids, hid]))|simp (disch := try exact discB) only [push_cast, simprocAttr, a0, a1, wcQ9])
 ·rw [if_neg hbig];by_cases hda : s0 = [45]
  ·subst hda;rw [if_pos rfl, zM0];refine wb0 0 58 [.tmp 4, .tmp 5] Tryz.func17 rfl rfl rfl (by simp) ?_;intro s ⟨a0, a1, hz⟩;simp only [l'g, Nat.reduceAdd] at a1;clear hz;repeat' (first|refine nv ?_|(with_reducible first|refine gG ?_ ?_|refine ⟨fun h => ?_, fun h => ?_⟩ <;> try omega|refine andG ?_)|refine cp hc ?_ (hi := by (simp [idsL, idsE, AV.ids, hid]))|simp (disch := try exact discB) only [push_cast, simprocAttr, a0, a1])
  ·rw [if_neg hda];have hsp := fun H => wdw9 H s0 [32] (by omega) (by simp);rw [qcQ9] at hsp;obtain ⟨g1, g2⟩ := xaN9 32 s0;have hcf := fun H => zS0 (fun n => !decide (chkT 1 n = 0)) 55 [] 1 (splitC 32 s0) (some (splitC 32 s0).length) H (.inr rfl) (by kernel_rfl) (fun s hs => kh0 (wd55 s (by have := g2 s hs; omega)) (by simp [idsL, AV.ids]) _) (by omega);have hln := za0 (splitC 32 s0);have hgt := fun k h => vc0 (splitC 32 s0) k h;have hd9 : decide (s0 = [45]) = false := decide_eq_false hda;have hne : 0 < (splitC 32 s0).length := n'm.2 (zL0 32 s0);generalize splitC 32 s0 = P at *;cases hb : P.any fun n => !decide (chkT 1 n = 0) with
   | true =>
    rw [hb] at hcf;rw [if_pos rfl, zM0];generalize strs P = L at *;refine wb0 0 58 [.tmp 4, .tmp 5] Tryz.func17 rfl rfl rfl (by simp) ?_;intro s ⟨a0, a1, hz⟩;simp only [l'g, Nat.reduceAdd] at a1;clear hz;repeat' (first|refine nv ?_|(with_reducible first|refine gG ?_ ?_|refine ⟨fun h => ?_, fun h => ?_⟩ <;> try omega|refine andG ?_)|refine cp hc ?_ (hi := by (simp [idsL, idsE, AV.ids, hid]))|refine cl ((hsp _)) ?_|refine cl ((hcf _)) ?_|simp (disch := try exact discB) only [push_cast, simprocAttr, a0, a1, hda, hd9, hln, en55])
   | false =>
    rw [hb] at hcf;rw [if_neg (by simp)];have hz0 := qbV9 (wad9 x.ins P);have hil := wcv9 x.ins P;rw [hil] at hz0;refine wb0 1 58 [.tmp 4, .tmp 5] Tryz.func17 rfl rfl rfl (by simp) ?_;intro s ⟨a0, a1, hz⟩;simp only [l'g, Nat.reduceAdd] at a1;clear hz;repeat' (first|refine nv ?_|(with_reducible first|refine gG ?_ ?_|refine ⟨fun h => ?_, fun h => ?_⟩ <;> try omega|refine andG ?_)|refine cp hc ?_ (hi := by (simp [idsL, idsE, AV.ids, hid]))|refine cl ((hsp _)) ?_|refine cl ((hcf _)) ?_|refine cl ((hpl _)) ?_|simp (disch := try exact discB) only [push_cast, simprocAttr, a0, a1, hda, hd9, hln, en55])
    rw [← hz0];refine go_loop rfl (fun mz s' H' => ∃ k : Nat, k ≤ P.length ∧ mz = P.length - k ∧ H' = [.row 7 27 [[.str x.nm, .int .i64 x.i, .int .i64 x.o, .sl x.zr (kb0 x.rows) x.cr, .sl 1 (strs x.ins) x.ci, .sl x.zo (strs x.outs) x.co, .sl x.zs (strs x.sts) x.cs]], .ob (.map 9 3 (nmS x.ins)), .row 1 3 (vad9 (wad9 x.ins P) k)] ∧ s' 8 = .mp 1 ∧ s' 9 = .own 2 P.length P.length (some P.length) ∧ s' 34 = .sl 1 (strs P) (some P.length) ∧ s' 35 = .int .i64 P.length ∧ s' 36 = .int .i64 k ∧ ∀ j, j < k → (P.getD j [] ∈ x.ins)) (m := P.length) (by first|exact va0|fail) (Weak.refl _ _) ⟨0, by omega, by omega, rfl, ?_⟩ ?_
    ·simp (disch := try exact discB) only [push_cast, simprocAttr, a0, a1, hda, hd9, hln, en55];all_goals exact fun j hj => by omega
    ·rintro mz s' H' ⟨k, hk, rfl, rfl, b8, b9, b34, b35, b36, ik⟩;rcases l'h k P.length with hlt|hge
     ·have e1 := hgt k hlt;have hfs := zcv9 (wad9 x.ins P) k (by omega);have hfl := qcv9 (wad9 x.ins P) k (by omega);have hfg := xcv9 (wad9 x.ins P) k (by omega);rw [vcv9 _ _ _ hlt] at hfs;rw [hil] at hfl;have hok := wdd9 x.ins (P.getD k []);have hlk := fun z => vcU9 x.ins z (P.getD k []);have hhs := xdw9 x.ins (P.getD k []);have hany : ¬ P.getD k [] ∈ x.ins → (P.any fun n => !decide (n ∈ x.ins)) = true := fun h => l'H.2 ⟨_, ze0 [] hlt, by rw [decide_eq_false h]; rfl⟩;have hsn := wE0 (P := fun j => P.getD j [] ∈ x.ins) (k := k) ik;generalize vad9 (wad9 x.ins P) k = F0 at *;generalize P.getD k [] = p at *;by_cases hin : p ∈ x.ins
      ·simp only [if_pos hin] at hlk;rw [decide_eq_true hin] at hhs;repeat' (first|refine nv ?_|(with_reducible first|refine gG ?_ ?_|refine ⟨fun h => ?_, fun h => ?_⟩ <;> try omega|refine andG ?_)|simp (disch := try exact discB) only [push_cast, simprocAttr, b8, b9, b34, b35, b36, e1, hok, hlk, hhs, hfl, hfs, hfg, hln, vdw9])
       refine wa0 (P.length - (k + 1)) (by omega) (by first|exact va0|fail) ⟨k + 1, by omega, rfl, rfl, ?_⟩;simp (disch := try exact discB) only [push_cast, simprocAttr, b8, b9, b34, b35, b36, e1, hok, hlk, hhs, hfl, hfs, hfg, hln, vdw9];exact hsn hin
      ·simp only [if_neg hin] at hlk;rw [decide_eq_false hin] at hhs;rw [if_pos (hany hin), zM0];repeat' (first|refine nv ?_|(with_reducible first|refine gG ?_ ?_|refine ⟨fun h => ?_, fun h => ?_⟩ <;> try omega|refine andG ?_)|simp (disch := try exact discB) only [push_cast, simprocAttr, b8, b9, b34, b35, b36, e1, hok, hlk, hhs, hfl, hfs, hfg, hln, vdw9])
     ·obtain rfl : k = P.length := by omega
      have hall : (P.any fun n => !decide (n ∈ x.ins)) = false := by
       rw [z'j];intro n hn;obtain ⟨j, hj, rfl⟩ := n'F hn;have := ik j hj;rw [l'b, l'e hj, Option.getD_some] at this;rw [decide_eq_true this]; decide
      rw [hall, if_neg (by simp)];have hfa := kcu9 (wad9 x.ins P);rw [hil] at hfa;rw [hfa];have hli := xA0 (wad9 x.ins P);rw [hil] at hli;by_cases h256 : 256 < P.length
      ·rw [if_pos h256, zM0];repeat' (first|refine nv ?_|(with_reducible first|refine gG ?_ ?_|refine ⟨fun h => ?_, fun h => ?_⟩ <;> try omega|refine andG ?_)|simp (disch := try exact discB) only [push_cast, simprocAttr, b8, b9, b34, b35, b36, hli])
      ·rw [if_neg h256];unfold xbx9;simp only;rw [if_neg (by intro e; have h2 : (wad9 x.ins P).length = 0 := (by rw [e]; rfl); omega), hil];repeat' (first|refine nv ?_|(with_reducible first|refine gG ?_ ?_|refine ⟨fun h => ?_, fun h => ?_⟩ <;> try omega|refine andG ?_)|simp (disch := try exact discB) only [push_cast, simprocAttr, b8, b9, b34, b35, b36, hli])
end Go.Proofs
