import Derived.Test.YtlpjemobbjijdaaGreatDoorS23
import Derived.Test.YtlpjemobbjijdaaGreatDoorAP9
namespace Go.Proofs
open Go Go.V
set_option linter.unusedVariables false
set_option linter.unusedSimpArgs false
set_option maxHeartbeats 0
set_option maxRecDepth 100000
def xR0 {α : Type} (kA : α → AV) : Nat → List α → List (AV × AV)
 | _, [] => []
 | n, x :: d => (kA x, .int .i64 n) :: xR0 kA (n + 1) d
theorem qau9 {α : Type} [BEq α] [LawfulBEq α] {kA : α → AV} (hs : ∀ x y, vy0 (kA x) (kA y) = (x == y)) (z : AV) (x : α) : ∀ (d : List α) (n : Nat), kZ0 z (xR0 kA n d) (kA x) = if x ∈ d then .int .i64 ((n + d.idxOf x : Nat) : Int) else z
 | [], n => by simp [kZ0, xR0]
 | y :: d, n => by
  have ih := qau9 hs z x d (n + 1)
  simp only [kZ0, xR0, List.find?_cons, hs] at ih ⊢
  by_cases h : x = y
  ·subst h; simp
  ·have h' : ¬ y = x := fun q => h q.symm
   rw [beq_eq_false_iff_ne.2 h]
   simp only [List.mem_cons, h, false_or, List.idxOf_cons, beq_eq_false_iff_ne.2 h', cond_false] at ih ⊢
   rw [ih]
   split
   ·congr 2; omega
   ·rfl
theorem xaE9 {α : Type} [BEq α] [LawfulBEq α] {kA : α → AV} (hs : ∀ x y, vy0 (kA x) (kA y) = (x == y)) (x : α) : ∀ (d : List α) (n : Nat), hasA (xR0 kA n d) (kA x) = decide (x ∈ d)
 | [], n => by simp [hasA, xR0]
 | y :: d, n => by
  have ih := xaE9 hs x d (n + 1)
  simp only [hasA, xR0, List.any_cons, hs] at ih ⊢
  rw [ih, Bool.eq_iff_iff]
  simp
theorem waE9 {α : Type} [BEq α] [LawfulBEq α] {kA : α → AV} (hs : ∀ x y, vy0 (kA x) (kA y) = (x == y)) (x : α) : ∀ (d : List α) (n : Nat), ¬ x ∈ d → updA (xR0 kA n d) (kA x) (.int .i64 ((n + d.length : Nat) : Int)) = xR0 kA n (d ++ [x])
 | [], n, _ => by simp [updA, xR0]
 | y :: d, n, h => by
  simp only [List.mem_cons, not_or] at h
  have ih := waE9 hs x d (n + 1) h.2
  simp only [xR0, updA, hs, beq_eq_false_iff_ne.2 h.1, Bool.false_eq_true, if_false, List.cons_append]
  rw [← ih]
  congr 4
  simp only [List.length_cons]; omega
theorem qbn9 {α : Type} {kA : α → AV} {kT : TypeId} (x : α) (h1 : eqTy Tryz.prog 8 kT = true) (h2 : keyA Tryz.prog 8 kT (kA x) = true) (h3 : ∀ y, (eqA Tryz.prog 8 kT (kA x) (kA y)) = (true, vy0 (kA x) (kA y))) : ∀ (d : List α) (n : Nat), vaF9 Tryz.prog kT (xR0 kA n d) (kA x) = true := fun d n => by
 simp only [vaF9, h1, h2, Bool.true_and]
 have : ∀ (d : List α) (n : Nat), ((xR0 kA n d).all fun p => (eqA Tryz.prog 8 kT (kA x) p.1).1 && ((eqA Tryz.prog 8 kT (kA x) p.1).2 == vy0 (kA x) p.1)) = true := fun d => by
  induction d with
  | nil => intro n; rfl
  | cons y d ih => intro n; rw [xR0, List.all_cons, ih]; simp [h3]
 exact this d n
theorem zY0 (x y : Bs) : vy0 (.str x) (.str y) = (x == y) := by
 simp only [vy0, vbL9]
theorem vde9 (x y : Bs) : eqA Tryz.prog 8 9 (.str x) (.str y) = (true, vy0 (.str x) (.str y)) := by
 rw [zY0, eqA]
 ·congr 1; rw [Bool.eq_iff_iff]; simp
 ·simp [shp, ti9]
theorem zcF9 (x : Bs) : keyA Tryz.prog 8 9 (.str x) = true := by
 rw [keyA]
 simp [shp, ti9]
theorem qej9 : eqTy Tryz.prog 8 9 = true := by kernel_rfl
def nmS (l : List Bs) : List (AV × AV) := xR0 AV.str 0 l
theorem vcL9 (l : List Bs) (x : Bs) : vaF9 Tryz.prog 9 (nmS l) (.str x) = true := qbn9 x qej9 (zcF9 x) (fun y => vde9 x y) l 0
theorem kde9 (l : List Bs) (x : Bs) (h : ¬ x ∈ l) : updA (nmS l) (.str x) (.int .i64 l.length) = nmS (l ++ [x]) := by
 have := waE9 zY0 x l 0 h
 rw [Nat.zero_add] at this; exact this
theorem xcF9 (l : List Bs) (z : AV) (x : Bs) : kZ0 z (nmS l) (.str x) = if x ∈ l then .int .i64 (l.idxOf x : Nat) else z := by
 have := qau9 zY0 z x l 0
 rw [Nat.zero_add] at this; exact this
theorem qdf9 (l : List Bs) (x : Bs) : hasA (nmS l) (.str x) = decide (x ∈ l) := xaE9 zY0 x l 0
theorem wcF9 (l : List Bs) (c : Option Nat) (B0 : Blk) (hl : l.length ≤ 1000000) (hnd : l.Nodup) : ka0 Tryz.prog G0 56 [.sl 1 (strs l) c] [B0] (.mp 1) [B0, .ob (.map 9 3 (nmS l))] := by
 refine vm0 19 [.tmp 2] Tryz.func56 rfl rfl rfl (by simp) ?_
 intro s ⟨a0, hz⟩
 clear hz
 repeat' (first|refine nv ?_|(with_reducible first|refine gG ?_ ?_|(refine And.intro (fun h => ?_) (fun h => ?_)) <;> try omega|refine andG ?_)|simp (disch := try exact discB) only [push_cast, simprocAttr, a0])
 refine go_loop rfl (fun mz s' H' => ∃ k : Nat, k ≤ l.length ∧ mz = l.length - k ∧ H' = [B0, .ob (.map 9 3 (nmS (l.take k)))] ∧ s' 3 = .mp 1 ∧ s' 7 = .sl 1 (strs l) c ∧ s' 8 = .int .i64 l.length ∧ s' 9 = .int .i64 k) (m := l.length) (by first|exact xb0|fail) (Weak.refl _ _) ⟨0, by omega, by omega, rfl, ?_⟩ ?_
 ·simp (disch := try exact discB) only [push_cast, simprocAttr, a0]
 ·rintro mz s' H' ⟨k, hk, rfl, rfl, b3, b7, b8, b9⟩
  rcases Nat.lt_or_ge k l.length with hlt|hge
  ·have e1 := vd0 l k hlt
   have hsn := qC0 l k hlt
   have hno : ¬ l.getD k [] ∈ l.take k := fun h => by
    obtain ⟨j, hj, e⟩ := List.getElem_of_mem h
    rw [List.length_take] at hj
    rw [List.getElem_take, List.getD_eq_getElem?_getD, List.getElem?_eq_getElem hlt] at e
    have := (List.getElem_inj hnd).1 e
    omega
   have hu := kde9 (l.take k) (l.getD k []) hno
   have hok := vcL9 (l.take k) (l.getD k [])
   rw [← hsn, List.length_take, Nat.min_eq_left (Nat.le_of_lt hlt)] at hu
   generalize l.getD k [] = x at *
   generalize nmS (l.take k) = M at *
   repeat' (first|refine nv ?_|(with_reducible first|refine gG ?_ ?_|(refine And.intro (fun h => ?_) (fun h => ?_)) <;> try omega|refine andG ?_)|simp (disch := try exact discB) only [push_cast, simprocAttr, b3, b7, b8, b9, e1, hu, hok])
   refine zb0 (l.length - (k + 1)) (by omega) (by first|exact xb0|fail) ⟨k + 1, by omega, rfl, rfl, ?_⟩
   simp (disch := try exact discB) only [push_cast, simprocAttr, b3, b7, b8, b9, e1, hu, hok]
  ·obtain rfl : k = l.length := by omega
   rw [List.take_length]
   repeat' (first|refine nv ?_|(with_reducible first|refine gG ?_ ?_|(refine And.intro (fun h => ?_) (fun h => ?_)) <;> try omega|refine andG ?_)|simp (disch := try exact discB) only [push_cast, simprocAttr, b3, b7, b8, b9])
theorem zdf9 (H : List Blk) (s sep : List UInt8) (hs : s.length < 4294967281) (h1 : 1 ≤ sep.length) : ka0 Tryz.prog G0 54 [.str s, .str sep] H (.sl 1 (strs (qu0 s sep)) (some (qu0 s sep).length)) H :=
 wct9 (gm := 0) rfl (fun s sep m w hs hm h1 => Tryz.strings_Split s sep m w hs hm h1) s sep hs h1
theorem wd55 (s0 : Bs) (hs : s0.length ≤ 1000000) : PC Tryz.prog G0 55 [.str s0] (.bool (!decide (chkT 1 s0 = 0))) := by
 have h1 := kbv9 s0 hs
 generalize decide (chkT 1 s0 = 0) = b at *
 refine xd0 0 6 [.tmp 2] Tryz.func55 rfl rfl rfl (by simp) ?_
 intro s ⟨a0, hz⟩
 clear hz
 repeat' (first|refine nv ?_|(with_reducible first|refine gG ?_ ?_|(refine And.intro (fun h => ?_) (fun h => ?_)) <;> try omega|refine andG ?_)|refine cp h1 ?_|simp (disch := try exact discB) only [push_cast, simprocAttr, a0])
theorem vaE9 (c : UInt8) : ∀ s : Bs, (splitC c s).length ≤ s.length + 1 ∧ ∀ p ∈ splitC c s, p.length ≤ s.length
 | [] => by simp [splitC]
 | b :: r => by
  obtain ⟨h1, h2⟩ := vaE9 c r
  by_cases h : b = c
  ·subst h
   rw [zad9]
   refine ⟨by simp; omega, fun p hp => ?_⟩
   rcases List.mem_cons.1 hp with rfl|hp
   ·simp
   ·have := h2 p hp; simp; omega
  ·cases hq : splitC c r with
   | nil => exact absurd hq (xH0 c r)
   | cons p l =>
    rw [hq] at h1 h2
    rw [wQ0 h hq]
    refine ⟨by simp at h1 ⊢; omega, fun q hq2 => ?_⟩
    rcases List.mem_cons.1 hq2 with rfl|hq2
    ·have := h2 p List.mem_cons_self; simp; omega
    ·have := h2 q (List.mem_cons_of_mem _ hq2); simp; omega
def xY0 (ins l : List Bs) : List Int := l.map fun s => ((ins.idxOf s : Nat) : Int)
def kbJ9 (ins : List Bs) (s : Bs) : List Int × Int :=
 if 65536 < s.length then ([], 3) else if s = [45] then ([], 0) else
  if (splitC 32 s).any (fun n => !decide (chkT 1 n = 0)) = true then ([], 4)
  else if (splitC 32 s).any (fun n => !decide (n ∈ ins)) = true then ([], 7)
  else if 256 < (splitC 32 s).length then ([], 3) else (xY0 ins (splitC 32 s), 0)
def zbn9 (r : List Int × Int) : AV := .tup [if r.1 = [] then .sl 0 [] (some 0) else .sl 1 (ints r.1) (some r.1.length), .int .i64 r.2]
theorem xI0 (e : Int) : zbn9 ([], e) = .tup [.sl 0 [] (some 0), .int .i64 e] := rfl
def wY0 (l : List Int) (k : Nat) : List (List AV) := ints (l.take k ++ List.replicate (l.length - k) 0)
theorem qbK9 (l : List Int) : wY0 l 0 = List.replicate l.length [.int .i64 0] := by simp [wY0, ints]
theorem qch9 (l : List Int) : wY0 l l.length = ints l := by simp [wY0]
theorem zch9 (l : List Int) (k : Nat) (h : k ≤ l.length) : (wY0 l k).length = l.length := by simp [wY0, ints]; omega
theorem xch9 (l : List Int) (k : Nat) (h : k < l.length) : (wY0 l k).set k [.int .i64 (l.getD k 0)] = wY0 l (k + 1) := by
 have e1 : (l.take k).length = k := by simp; omega
 have e2 : l.take (k + 1) = l.take k ++ [l.getD k 0] := by
  rw [List.take_succ_eq_append_getElem h, List.getD_eq_getElem?_getD, List.getElem?_eq_getElem h]; rfl
 rw [wY0, wY0, e2, show l.length - k = (l.length - (k + 1)) + 1 by omega, List.replicate_succ]
 simp only [ints, List.map_append, List.map_cons, List.map_nil, List.append_assoc, List.singleton_append]
 rw [List.set_append_right _ _ (by simp; omega), List.length_map, e1, Nat.sub_self]; rfl
theorem wch9 (l : List Int) (k : Nat) (h : k < l.length) : (wY0 l k).getD k [] = [.int .i64 0] := by
 have e1 : (l.take k).length = k := by simp; omega
 rw [wY0, show l.length - k = (l.length - (k + 1)) + 1 by omega, List.replicate_succ]
 simp only [ints, List.map_append, List.map_cons]
 rw [List.getD_eq_getElem?_getD, List.getElem?_append_right (by simp; omega), List.length_map, e1, Nat.sub_self]; rfl
theorem xdf9 : vbz9 Tryz.prog 3 = .int .i64 0 := by kernel_rfl
theorem vch9 (ins l : List Bs) : (xY0 ins l).length = l.length := by simp [xY0]
theorem kch9 (ins l : List Bs) (k : Nat) (h : k < l.length) : (xY0 ins l).getD k 0 = (ins.idxOf (l.getD k []) : Nat) := by simp [xY0, h]
theorem xbx9 (x : GS) (hx : x.Ok) (s0 : Bs) (h0 : chkS x = 0) : PC Tryz.prog G0 17 [.agg x.A, .str s0] (zbn9 (kbJ9 x.ins s0)) := by
 have hc := zae9 x hx
 rw [h0] at hc
 have hid := fun p => zE0 p x
 have hv := chkS_zero.1 h0
 obtain ⟨l1, l2, l3, l4, l5, l6⟩ := hv.cnts
 have hz1 : x.zi = 1 := hx.i.resolve_left (by intro e; rw [e] at l4; simp at l4)
 have hnd : x.ins.Nodup := hv.nd _ (by simp [GS.lists])
 have hpl := fun B0 => wcF9 x.ins x.ci B0 (by omega) hnd
 unfold GS.A at *
 rw [hz1] at hc ⊢
 unfold kbJ9
 by_cases hbig : 65536 < s0.length
 ·rw [if_pos hbig]
  rw [xI0]
  refine xd0 0 58 [.tmp 4, .tmp 5] Tryz.func17 rfl rfl rfl (by simp) ?_
  intro s ⟨a0, a1, hz⟩
  simp only [Nat.zero_add, Nat.reduceAdd] at a1
  clear hz
  repeat' (first|refine nv ?_|(with_reducible first|refine gG ?_ ?_|(refine And.intro (fun h => ?_) (fun h => ?_)) <;> try omega|refine andG ?_)|refine cp hc ?_ (hi := by (simp [idsL, idsE, AV.ids, hid]))|simp (disch := try exact discB) only [push_cast, simprocAttr, a0, a1, xcB9])
 ·rw [if_neg hbig]
  by_cases hda : s0 = [45]
  ·subst hda
   rw [if_pos rfl, xI0]
   refine xd0 0 58 [.tmp 4, .tmp 5] Tryz.func17 rfl rfl rfl (by simp) ?_
   intro s ⟨a0, a1, hz⟩
   simp only [Nat.zero_add, Nat.reduceAdd] at a1
   clear hz
   repeat' (first|refine nv ?_|(with_reducible first|refine gG ?_ ?_|(refine And.intro (fun h => ?_) (fun h => ?_)) <;> try omega|refine andG ?_)|refine cp hc ?_ (hi := by (simp [idsL, idsE, AV.ids, hid]))|simp (disch := try exact discB) only [push_cast, simprocAttr, a0, a1])
  ·rw [if_neg hda]
   have hsp := fun H => zdf9 H s0 [32] (by omega) (by simp)
   rw [vcA9] at hsp
   obtain ⟨g1, g2⟩ := vaE9 32 s0
   have hcf := fun H => xN0 (fun n => !decide (chkT 1 n = 0)) 55 [] 1 (splitC 32 s0) (some (splitC 32 s0).length) H (.inr rfl) (by kernel_rfl) (fun s hs => zl0 (wd55 s (by have := g2 s hs; omega)) (by simp [idsL, AV.ids]) _) (by omega)
   have hln := wa0 (splitC 32 s0)
   have hgt := fun k h => vd0 (splitC 32 s0) k h
   have hd9 : decide (s0 = [45]) = false := decide_eq_false hda
   have hne : 0 < (splitC 32 s0).length := List.length_pos_iff.2 (xH0 32 s0)
   generalize splitC 32 s0 = P at *
   cases hb : P.any fun n => !decide (chkT 1 n = 0) with
   | true =>
    rw [hb] at hcf
    rw [if_pos rfl, xI0]
    generalize strs P = L at *
    refine xd0 0 58 [.tmp 4, .tmp 5] Tryz.func17 rfl rfl rfl (by simp) ?_
    intro s ⟨a0, a1, hz⟩
    simp only [Nat.zero_add, Nat.reduceAdd] at a1
    clear hz
    repeat' (first|refine nv ?_|(with_reducible first|refine gG ?_ ?_|(refine And.intro (fun h => ?_) (fun h => ?_)) <;> try omega|refine andG ?_)|refine cp hc ?_ (hi := by (simp [idsL, idsE, AV.ids, hid]))|refine cl ((hsp _)) ?_|refine cl ((hcf _)) ?_|simp (disch := try exact discB) only [push_cast, simprocAttr, a0, a1, hda, hd9, hln, en55])
   | false =>
    rw [hb] at hcf
    rw [if_neg (by simp)]
    have hz0 := qbK9 (xY0 x.ins P)
    have hil := vch9 x.ins P
    rw [hil] at hz0
    refine xd0 1 58 [.tmp 4, .tmp 5] Tryz.func17 rfl rfl rfl (by simp) ?_
    intro s ⟨a0, a1, hz⟩
    simp only [Nat.zero_add, Nat.reduceAdd] at a1
    clear hz
    repeat' (first|refine nv ?_|(with_reducible first|refine gG ?_ ?_|(refine And.intro (fun h => ?_) (fun h => ?_)) <;> try omega|refine andG ?_)|refine cp hc ?_ (hi := by (simp [idsL, idsE, AV.ids, hid]))|refine cl ((hsp _)) ?_|refine cl ((hcf _)) ?_|refine cl ((hpl _)) ?_|simp (disch := try exact discB) only [push_cast, simprocAttr, a0, a1, hda, hd9, hln, en55])
    rw [← hz0]
    refine go_loop rfl (fun mz s' H' => ∃ k : Nat, k ≤ P.length ∧ mz = P.length - k ∧ H' = [.row 7 27 [[.str x.nm, .int .i64 x.i, .int .i64 x.o, .sl x.zr (kc0 x.rows) x.cr, .sl 1 (strs x.ins) x.ci, .sl x.zo (strs x.outs) x.co, .sl x.zs (strs x.sts) x.cs]], .ob (.map 9 3 (nmS x.ins)), .row 1 3 (wY0 (xY0 x.ins P) k)] ∧ s' 8 = .mp 1 ∧ s' 9 = .own 2 P.length P.length (some P.length) ∧ s' 34 = .sl 1 (strs P) (some P.length) ∧ s' 35 = .int .i64 P.length ∧ s' 36 = .int .i64 k ∧ ∀ j, j < k → (P.getD j [] ∈ x.ins)) (m := P.length) (by first|exact xb0|fail) (Weak.refl _ _) ⟨0, by omega, by omega, rfl, ?_⟩ ?_
    ·simp (disch := try exact discB) only [push_cast, simprocAttr, a0, a1, hda, hd9, hln, en55]
     all_goals exact fun j hj => by omega
    ·rintro mz s' H' ⟨k, hk, rfl, rfl, b8, b9, b34, b35, b36, ik⟩
     rcases Nat.lt_or_ge k P.length with hlt|hge
     ·have e1 := hgt k hlt
      have hfs := xch9 (xY0 x.ins P) k (by omega)
      have hfl := zch9 (xY0 x.ins P) k (by omega)
      have hfg := wch9 (xY0 x.ins P) k (by omega)
      rw [kch9 _ _ _ hlt] at hfs
      rw [hil] at hfl
      have hok := vcL9 x.ins (P.getD k [])
      have hlk := fun z => xcF9 x.ins z (P.getD k [])
      have hhs := qdf9 x.ins (P.getD k [])
      have hany : ¬ P.getD k [] ∈ x.ins → (P.any fun n => !decide (n ∈ x.ins)) = true := fun h => List.any_eq_true.2 ⟨_, ve0 [] hlt, by rw [decide_eq_false h]; rfl⟩
      have hsn := xad9 (P := fun j => P.getD j [] ∈ x.ins) (k := k) ik
      generalize wY0 (xY0 x.ins P) k = F0 at *
      generalize P.getD k [] = p at *
      by_cases hin : p ∈ x.ins
      ·simp only [if_pos hin] at hlk
       rw [decide_eq_true hin] at hhs
       repeat' (first|refine nv ?_|(with_reducible first|refine gG ?_ ?_|(refine And.intro (fun h => ?_) (fun h => ?_)) <;> try omega|refine andG ?_)|simp (disch := try exact discB) only [push_cast, simprocAttr, b8, b9, b34, b35, b36, e1, hok, hlk, hhs, hfl, hfs, hfg, hln, xdf9])
       refine zb0 (P.length - (k + 1)) (by omega) (by first|exact xb0|fail) ⟨k + 1, by omega, rfl, rfl, ?_⟩
       simp (disch := try exact discB) only [push_cast, simprocAttr, b8, b9, b34, b35, b36, e1, hok, hlk, hhs, hfl, hfs, hfg, hln, xdf9]
       exact hsn hin
      ·simp only [if_neg hin] at hlk
       rw [decide_eq_false hin] at hhs
       rw [if_pos (hany hin), xI0]
       repeat' (first|refine nv ?_|(with_reducible first|refine gG ?_ ?_|(refine And.intro (fun h => ?_) (fun h => ?_)) <;> try omega|refine andG ?_)|simp (disch := try exact discB) only [push_cast, simprocAttr, b8, b9, b34, b35, b36, e1, hok, hlk, hhs, hfl, hfs, hfg, hln, xdf9])
     ·obtain rfl : k = P.length := by omega
      have hall : (P.any fun n => !decide (n ∈ x.ins)) = false := by
       rw [List.any_eq_false]
       intro n hn
       obtain ⟨j, hj, rfl⟩ := List.getElem_of_mem hn
       have := ik j hj
       rw [List.getD_eq_getElem?_getD, List.getElem?_eq_getElem hj, Option.getD_some] at this
       rw [decide_eq_true this]; decide
      rw [hall, if_neg (by simp)]
      have hfa := qch9 (xY0 x.ins P)
      rw [hil] at hfa
      rw [hfa]
      have hli := xy0 (xY0 x.ins P)
      rw [hil] at hli
      by_cases h256 : 256 < P.length
      ·rw [if_pos h256, xI0]
       repeat' (first|refine nv ?_|(with_reducible first|refine gG ?_ ?_|(refine And.intro (fun h => ?_) (fun h => ?_)) <;> try omega|refine andG ?_)|simp (disch := try exact discB) only [push_cast, simprocAttr, b8, b9, b34, b35, b36, hli])
      ·rw [if_neg h256]
       unfold zbn9
       simp only
       rw [if_neg (by intro e; have h2 : (xY0 x.ins P).length = 0 := (by rw [e]; rfl); omega), hil]
       repeat' (first|refine nv ?_|(with_reducible first|refine gG ?_ ?_|(refine And.intro (fun h => ?_) (fun h => ?_)) <;> try omega|refine andG ?_)|simp (disch := try exact discB) only [push_cast, simprocAttr, b8, b9, b34, b35, b36, hli])
end Go.Proofs
