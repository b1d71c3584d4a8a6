import Derived.Test.YtlpjemobbjijdaaGreatDoorS18
import Derived.Test.YtlpjemobbjijdaaGreatDoorS4
import Derived.Test.YtlpjemobbjijdaaGreatDoorS13
namespace Go.Proofs
open Go Go.V
set_option linter.unusedVariables false
set_option linter.unusedSimpArgs false
set_option maxHeartbeats 0
set_option maxRecDepth 100000
def lgA (x : GS) : List (List AV) := [[.sl 1 (strs [x.nm]) (some 1)], [.sl x.zi (strs x.ins) x.ci], [.sl x.zo (strs x.outs) x.co], [.sl x.zs (strs x.sts) x.cs]]
def lgZ (x : GS) (k : Nat) : Nat := match k with|0 => 1|1 => x.zi|2 => x.zo|_ => x.zs
theorem vcx9 (x : GS) (k : Nat) (h : k < 4) : (lgA x).getD k [] = [.sl (lgZ x k) (strs (x.lists.getD k [])) (lsC x k)] := by
 have : k = 0 ∨ k = 1 ∨ k = 2 ∨ k = 3 := by omega
 rcases this with rfl|rfl|rfl|rfl <;> rfl
theorem lg_z {x : GS} (hx : x.Ok) (k : Nat) (h : k < 4) : (x.lists.getD k [] = [] ∨ lgZ x k = 1) ∧ (x.lists.getD k []).length ≤ 1000000 := by
 have : k = 0 ∨ k = 1 ∨ k = 2 ∨ k = 3 := by omega
 rcases this with rfl|rfl|rfl|rfl
 ·exact ⟨.inr rfl, by show 1 ≤ 1000000; omega⟩
 ·exact ⟨hx.i, hx.li⟩
 ·exact ⟨hx.o, hx.lo⟩
 ·exact ⟨hx.s, hx.ls⟩
def qF0 (x y : GS) : Bool := decide (x.lists = y.lists) && decide (x.i = y.i ∧ x.o = y.o ∧ edgesOf x.rows = edgesOf y.rows)
theorem kdd9 (x : GS) : x.lists.length = 4 := rfl
theorem wM0 (x y : GS) (hx : x.Ok) (hy : y.Ok) : PC Tryz.prog G0 23 [.agg x.A, .agg y.A] (.bool (qF0 x y)) := by
 have h69 := wcq9 x.i x.o x.rows x.zr x.cr y.i y.o y.rows y.zr y.cr hx.r hy.r hx.lr hy.lr hx.lw hy.lw;have hid := fun p => vr0 p x;have hid2 := fun p => vr0 p y;have gx := vcx9 x;have gy := vcx9 y;have zx := lg_z hx;have zy := lg_z hy;have hi1 : ∀ p, idsE p (kb0 x.rows) = true := fun p => we0 p _;have hi2 : ∀ p, idsE p (kb0 y.rows) = true := fun p => we0 p _;unfold qF0;generalize decide (x.i = y.i ∧ x.o = y.o ∧ edgesOf x.rows = edgesOf y.rows) = b at *;have hXA : lgA x = [[.sl 1 [[.str x.nm]] (some 1)], [.sl x.zi (strs x.ins) x.ci], [.sl x.zo (strs x.outs) x.co], [.sl x.zs (strs x.sts) x.cs]] := rfl;have hYA : lgA y = [[.sl 1 [[.str y.nm]] (some 1)], [.sl y.zi (strs y.ins) y.ci], [.sl y.zo (strs y.outs) y.co], [.sl y.zs (strs y.sts) y.cs]] := rfl;have hxl : (lgA x).length = 4 := rfl;have hyl : (lgA y).length = 4 := rfl;unfold GS.A at *;refine wb0 0 73 [.tmp 4] Tryz.func23 rfl rfl rfl (by simp) ?_;intro s ⟨a0, a1, hz⟩;simp only [l'g, Nat.reduceAdd] at a1;clear hz;repeat' (first|refine nv ?_|(with_reducible first|refine gG ?_ ?_|refine ⟨fun h => ?_, fun h => ?_⟩ <;> try omega|refine andG ?_)|simp (disch := try exact discB) only [push_cast, simprocAttr, a0, a1])
 rw [hXA] at gx hxl;rw [hYA] at gy hyl;generalize [[AV.sl 1 [[AV.str x.nm]] (some 1)], [AV.sl x.zi (strs x.ins) x.ci], [AV.sl x.zo (strs x.outs) x.co], [AV.sl x.zs (strs x.sts) x.cs]] = XS at *;generalize [[AV.sl 1 [[AV.str y.nm]] (some 1)], [AV.sl y.zi (strs y.ins) y.ci], [AV.sl y.zo (strs y.outs) y.co], [AV.sl y.zs (strs y.sts) y.cs]] = YS at *;refine go_loop rfl (fun mz s' H' => ∃ k : Nat, k ≤ 4 ∧ mz = 4 - k ∧ H' = [.row 7 27 [[.str x.nm, .int .i64 x.i, .int .i64 x.o, .sl x.zr (kb0 x.rows) x.cr, .sl x.zi (strs x.ins) x.ci, .sl x.zo (strs x.outs) x.co, .sl x.zs (strs x.sts) x.cs]], .row 7 27 [[.str y.nm, .int .i64 y.i, .int .i64 y.o, .sl y.zr (kb0 y.rows) y.cr, .sl y.zi (strs y.ins) y.ci, .sl y.zo (strs y.outs) y.co, .sl y.zs (strs y.sts) y.cs]]] ∧ s' 2 = .ptr 0 0 0 1 ∧ s' 3 = .ptr 1 0 0 1 ∧ s' 5 = .sl 1 XS (some 4) ∧ s' 6 = .sl 1 YS (some 4) ∧ s' 7 = .int .i64 k ∧ ∀ j, j < k → x.lists.getD j [] = y.lists.getD j []) (m := 4) (by first|exact va0|fail) (Weak.refl _ _) ⟨0, by omega, by omega, rfl, ?_⟩ ?_
 ·simp (disch := try exact discB) only [push_cast, simprocAttr, a0, a1];all_goals exact fun j hj => by omega
 ·rintro mz s' H' ⟨k, hk, rfl, rfl, b2, b3, b5, b6, b7, ik⟩;rcases l'h k 4 with hlt|hge
  ·have e1 := gx k hlt;have e2 := gy k hlt;obtain ⟨z1, b1'⟩ := zx k hlt;obtain ⟨z2, b2'⟩ := zy k hlt;have hsn := wE0 (P := fun j => x.lists.getD j [] = y.lists.getD j []) (k := k) ik;have hno : x.lists.getD k [] ≠ y.lists.getD k [] → decide (x.lists = y.lists) = false := fun h => decide_eq_false fun e => h (by rw [e]);generalize x.lists.getD k [] = l at *;generalize y.lists.getD k [] = m at *;generalize lgZ x k = zl at *;generalize lgZ y k = zm at *;have hl1 := za0 l;have hl2 := za0 m;repeat' (first|refine nv ?_|(with_reducible first|refine gG ?_ ?_|refine ⟨fun h => ?_, fun h => ?_⟩ <;> try omega|refine andG ?_)|simp (disch := try exact discB) only [push_cast, simprocAttr, b2, b3, b5, b6, b7, e1, e2, hxl, hyl, hl1, hl2])
   ·rw [hno (fun e => by rw [e] at h; omega)]; rfl
   ·rename_i hlen;have hlm : l.length = m.length := by omega
    refine go_loop rfl (fun mz s' H' => ∃ q : Nat, q ≤ l.length ∧ mz = l.length - q ∧ H' = [.row 7 27 [[.str x.nm, .int .i64 x.i, .int .i64 x.o, .sl x.zr (kb0 x.rows) x.cr, .sl x.zi (strs x.ins) x.ci, .sl x.zo (strs x.outs) x.co, .sl x.zs (strs x.sts) x.cs]], .row 7 27 [[.str y.nm, .int .i64 y.i, .int .i64 y.o, .sl y.zr (kb0 y.rows) y.cr, .sl y.zi (strs y.ins) y.ci, .sl y.zo (strs y.outs) y.co, .sl y.zs (strs y.sts) y.cs]]] ∧ s' 2 = .ptr 0 0 0 1 ∧ s' 3 = .ptr 1 0 0 1 ∧ s' 5 = .sl 1 XS (some 4) ∧ s' 6 = .sl 1 YS (some 4) ∧ s' 7 = .int .i64 k ∧ s' 8 = .int .i64 q ∧ ∀ j, j < q → l.getD j [] = m.getD j []) (m := l.length) (by first|exact va0|fail) (Weak.refl _ _) ⟨0, by omega, by omega, rfl, ?_⟩ ?_
    ·simp (disch := try exact discB) only [push_cast, simprocAttr, b2, b3, b5, b6, b7, e1, e2, hxl, hyl, hl1, hl2];all_goals exact fun j hj => by omega
    ·clear b2 b3 b5 b6 b7;rintro mz s' H' ⟨q, hq, rfl, rfl, b2, b3, b5, b6, b7, b8, iq⟩;rcases l'h q l.length with hlt2|hge2
     ·obtain rfl := z1.resolve_left (by intro h; rw [h] at hlt2; simp at hlt2);obtain rfl := z2.resolve_left (by intro h; rw [h] at hlm; simp at hlm; rw [hlm] at hlt2; simp at hlt2);have e3 := vc0 l q hlt2;have e4 := vc0 m q (by omega);have hsn2 := wE0 (P := fun j => l.getD j [] = m.getD j []) (k := q) iq;have hno2 : l.getD q [] ≠ m.getD q [] → l ≠ m := fun h e => h (by rw [e]);generalize l.getD q [] = u at *;generalize m.getD q [] = v at *;by_cases huv : u = v
      ·subst huv;repeat' (first|refine nv ?_|(with_reducible first|refine gG ?_ ?_|refine ⟨fun h => ?_, fun h => ?_⟩ <;> try omega|refine andG ?_)|simp (disch := try exact discB) only [push_cast, simprocAttr, b2, b3, b5, b6, b7, b8, e1, e2, e3, e4, hxl, hyl, hl1, hl2])
       refine wa0 (l.length - (q + 1)) (by omega) (by first|exact va0|fail) ⟨q + 1, by omega, rfl, rfl, ?_⟩;simp (disch := try exact discB) only [push_cast, simprocAttr, b2, b3, b5, b6, b7, b8, e1, e2, e3, e4, hxl, hyl, hl1, hl2];all_goals exact hsn2 rfl
      ·have hd : decide (u = v) = false := decide_eq_false huv;repeat' (first|refine nv ?_|(with_reducible first|refine gG ?_ ?_|refine ⟨fun h => ?_, fun h => ?_⟩ <;> try omega|refine andG ?_)|simp (disch := try exact discB) only [push_cast, simprocAttr, b2, b3, b5, b6, b7, b8, e1, e2, e3, e4, hxl, hyl, hl1, hl2, huv, hd])
       rw [hno (hno2 huv)]; rfl
     ·obtain rfl : q = l.length := by omega
      repeat' (first|refine nv ?_|(with_reducible first|refine gG ?_ ?_|refine ⟨fun h => ?_, fun h => ?_⟩ <;> try omega|refine andG ?_)|simp (disch := try exact discB) only [push_cast, simprocAttr, b2, b3, b5, b6, b7, b8, e1, e2, hxl, hyl, hl1, hl2])
      refine wa0 (4 - (k + 1)) (by omega) (by first|exact va0|fail) ⟨k + 1, by omega, rfl, rfl, ?_⟩;simp (disch := try exact discB) only [push_cast, simprocAttr, b2, b3, b5, b6, b7, b8, e1, e2, hxl, hyl, hl1, hl2];all_goals exact hsn (qH0 [] hlm iq)
  ·obtain rfl : k = 4 := by omega
   rw [decide_eq_true (qH0 [] (by rw [kdd9, kdd9]) (fun j hj => ik j hj) : x.lists = y.lists), n'k];repeat' (first|refine nv ?_|(with_reducible first|refine gG ?_ ?_|refine ⟨fun h => ?_, fun h => ?_⟩ <;> try omega|refine andG ?_)|refine cp h69 ?_ (hi := by (simp [idsL, idsE, AV.ids, hi1, hi2]))|simp (disch := try exact discB) only [push_cast, simprocAttr, b2, b3, b5, b6, b7, hxl, hyl])
abbrev RS := Nat × Int
def zh0 (l : List Tk) (w : Bs) (r : RS) : RS := if r.2 ≠ 0 then r else match xd0 l w r.1 with|.ok _ => (r.1 + 1, 0)|.no k e => (k, e)
def qap9 (l : List Tk) (r : RS) : RS × Bs := if r.2 ≠ 0 then (r, []) else match wh0 l r.1 with|.ok s => ((r.1 + 1, 0), s)|.no k e => ((k, e), [])
def ofS' (l : List Tk) (ns : List Bs) (r : RS) : RS × Nat := if r.2 ≠ 0 then (r, 0) else match ofM l ns r.1 with|.ok k => ((r.1 + 1, 0), k)|.no k e => ((k, e), 0)
structure RX where
 nm : Bs
 zi : Nat
 I : List Bs
 ci : Option Nat
 zo : Nat
 O : List Bs
 co : Option Nat
 zs : Nat
 S : List Bs
 cs : Option Nat
def stR (ts : List Tk) (c : Option Nat) (a : Nat) (e : Int) (g : RX) : List AV := [.sl 4 (tks ts) c, .int .i64 a, .int .i64 e, .str g.nm, .int .i64 0, .int .i64 0, .sl 0 [] (some 0), .sl g.zi (strs g.I) g.ci, .sl g.zo (strs g.O) g.co, .sl g.zs (strs g.S) g.cs]
theorem kP0 (p : Nat → Bool) (ts : List Tk) (c : Option Nat) (a : Nat) (e : Int) (g : RX) : idsL p (stR ts c a e g) = true := by simp [stR, idsL, AV.ids, idsE]
section
variable (ts : List Tk) (c : Option Nat) (g : RX)
theorem qaO9 (a : Nat) (e : Int) (a' : Nat) (e' : Int) : PC Tryz.prog G0 75 [.agg (stR ts c a e g), .int .i64 a', .int .i64 e'] (.agg (stR ts c a' e' g)) := by
 have hid : ∀ p, idsE p (tks ts) = true := fun p => vp0 p _;unfold stR;refine wb0 0 12 [.cell 6 123] Tryz.func75 rfl rfl rfl (by simp) ?_;intro s ⟨a0, a1, a2, hz⟩;simp only [l'g, Nat.reduceAdd] at a1 a2;clear hz;repeat' (first|refine nv ?_|(with_reducible first|refine gG ?_ ?_|refine ⟨fun h => ?_, fun h => ?_⟩ <;> try omega|refine andG ?_)|simp (disch := try exact discB) only [push_cast, simprocAttr, a0, a1, a2])
theorem qae9 (w : Bs) (r : RS) (hl : ts.length ≤ 1000000) (hr : r.2 = 0 → r.1 ≤ ts.length) : PC Tryz.prog G0 71 [.agg (stR ts c r.1 r.2 g), .str w] (.agg (stR ts c (zh0 ts w r).1 (zh0 ts w r).2 g)) := by
 obtain ⟨a, e⟩ := r;have hid := fun p => kP0 p ts c a e g;have hL := wd0 ts;have hf := fun a' e' => qaO9 ts c g a e a' e';unfold zh0;simp only at hr ⊢;by_cases he : e = 0
 ·subst he;rw [if_neg (by decide)];have hr := hr rfl;unfold xd0 xp0;by_cases hlt : a < ts.length
  ·rw [if_pos hlt];simp only [PE.bind];have e1 := qn0 ts a hlt;have hne : ¬ (a : Int) = ts.length := by omega
   by_cases ht : (ts.getD a tk0).t = w
   ·rw [if_pos ht];have hd : decide ((ts.getD a tk0).t = w) = true := decide_eq_true ht;unfold tkA at e1;generalize ts.getD a tk0 = t at *;subst ht;unfold stR at *;refine wb0 0 39 [.cell 4 123] Tryz.func71 rfl rfl rfl (by simp) ?_;intro s ⟨a0, a1, hz⟩;simp only [l'g, Nat.reduceAdd] at a1;clear hz;repeat' (first|refine nv ?_|(with_reducible first|refine gG ?_ ?_|refine ⟨fun h => ?_, fun h => ?_⟩ <;> try omega|refine andG ?_)|simp (disch := try exact discB) only [push_cast, simprocAttr, a0, a1, hL, e1, hne])
   ·rw [if_neg ht];have hd : decide ((ts.getD a tk0).t = w) = false := decide_eq_false ht;have hf := hf a 4;unfold tkA at e1;generalize ts.getD a tk0 = t at *;unfold stR at *;refine wb0 0 39 [.cell 4 123] Tryz.func71 rfl rfl rfl (by simp) ?_;intro s ⟨a0, a1, hz⟩;simp only [l'g, Nat.reduceAdd] at a1;clear hz;repeat' (first|refine nv ?_|(with_reducible first|refine gG ?_ ?_|refine ⟨fun h => ?_, fun h => ?_⟩ <;> try omega|refine andG ?_)|refine cp hf ?_ (hi := by (simp [idsL, idsE, AV.ids, hid]))|simp (disch := try exact discB) only [push_cast, simprocAttr, a0, a1, hL, e1, hne, ht, hd])
  ·rw [if_neg hlt];simp only [PE.bind];obtain rfl : a = ts.length := by omega
   have hf := hf (ts.length - 1) 4;have hmx : (if (0 : Int) > (ts.length : Int) - 1 then (0 : Int) else (ts.length : Int) - 1) = ((ts.length - 1 : Nat) : Int) := by split <;> omega
   unfold stR at *;refine wb0 0 39 [.cell 4 123] Tryz.func71 rfl rfl rfl (by simp) ?_;intro s ⟨a0, a1, hz⟩;simp only [l'g, Nat.reduceAdd] at a1;clear hz;repeat' (first|refine nv ?_|(with_reducible first|refine gG ?_ ?_|refine ⟨fun h => ?_, fun h => ?_⟩ <;> try omega|refine andG ?_)|refine cp hf ?_ (hi := by (simp [idsL, idsE, AV.ids, hid]))|simp (disch := try exact discB) only [push_cast, simprocAttr, a0, a1, hL, hmx])
 ·rw [if_pos he];unfold stR at *;refine wb0 0 39 [.cell 4 123] Tryz.func71 rfl rfl rfl (by simp) ?_;intro s ⟨a0, a1, hz⟩;simp only [l'g, Nat.reduceAdd] at a1;clear hz;repeat' (first|refine nv ?_|(with_reducible first|refine gG ?_ ?_|refine ⟨fun h => ?_, fun h => ?_⟩ <;> try omega|refine andG ?_)|simp (disch := try exact discB) only [push_cast, simprocAttr, a0, a1, he])
theorem kcx9 (r : RS) (hl : ts.length ≤ 1000000) (hr : r.2 = 0 → r.1 ≤ ts.length) : PC Tryz.prog G0 72 [.agg (stR ts c r.1 r.2 g)] (.tup [.agg (stR ts c (qap9 ts r).1.1 (qap9 ts r).1.2 g), .str (qap9 ts r).2]) := by
 obtain ⟨a, e⟩ := r;have hid := fun p => kP0 p ts c a e g;have hL := wd0 ts;have hf := fun a' e' => qaO9 ts c g a e a' e';unfold qap9;simp only at hr ⊢;by_cases he : e = 0
 ·subst he;rw [if_neg (by decide)];have hr := hr rfl;unfold wh0 xp0;by_cases hlt : a < ts.length
  ·rw [if_pos hlt];simp only [PE.bind];have e1 := qn0 ts a hlt;have hne : ¬ (a : Int) = ts.length := by omega
   have hR := wac9 (ts.getD a tk0).t;unfold tkA at e1;by_cases hk : (ts.getD a tk0).k = 1
   ·rw [if_pos hk];cases hrb : resB.contains (ts.getD a tk0).t with
    | true =>
     rw [if_pos rfl];rw [hrb, show bI true = 1 from rfl] at hR;have hf := hf a 10;rw [hk] at e1;generalize (ts.getD a tk0).t = w at *;unfold stR at *;refine wb0 0 49 [.cell 2 123, .tmp 3] Tryz.func72 rfl rfl rfl (by simp) ?_;intro s ⟨a0, hz⟩;clear hz;repeat' (first|(first|refine nav ?_|(refine g0_ ?_; first|refine dN (p := [0, 1, 1, 1, 1, 1, 1, 1]) [(47, 4), (48, 47)] [(2, some 2)] [] ?_|refine goD ?_))|(with_reducible first|refine gG ?_ ?_|refine ⟨fun h => ?_, fun h => ?_⟩ <;> try omega|refine andG ?_)|refine cp hR ?_ (hi := by (simp [idsL, idsE, AV.ids, hid]))|refine cp hf ?_ (hi := by (simp [idsL, idsE, AV.ids, hid]))|simp (disch := try exact discB) only [push_cast, simprocAttr, a0, hL, e1, hne])
    | false =>
     rw [if_neg (by decide)];rw [hrb, show bI false = 0 from rfl] at hR;rw [hk] at e1;generalize (ts.getD a tk0).t = w at *;unfold stR at *;refine wb0 0 49 [.cell 2 123, .tmp 3] Tryz.func72 rfl rfl rfl (by simp) ?_;intro s ⟨a0, hz⟩;clear hz;repeat' (first|(first|refine nav ?_|(refine g0_ ?_; first|refine dN (p := [0, 1, 1, 1, 1, 1, 1, 1]) [(47, 4), (48, 47)] [(2, some 2)] [] ?_|refine goD ?_))|(with_reducible first|refine gG ?_ ?_|refine ⟨fun h => ?_, fun h => ?_⟩ <;> try omega|refine andG ?_)|refine cp hR ?_ (hi := by (simp [idsL, idsE, AV.ids, hid]))|simp (disch := try exact discB) only [push_cast, simprocAttr, a0, hL, e1, hne])
   ·rw [if_neg hk];have hf := hf a 4;generalize (ts.getD a tk0).t = w at *;generalize (ts.getD a tk0).k = k at *;unfold stR at *;refine wb0 0 49 [.cell 2 123, .tmp 3] Tryz.func72 rfl rfl rfl (by simp) ?_;intro s ⟨a0, hz⟩;clear hz;repeat' (first|(first|refine nav ?_|(refine g0_ ?_; first|refine dN (p := [0, 1, 1, 1, 1, 1, 1, 1]) [(47, 4), (48, 47)] [(2, some 2)] [] ?_|refine goD ?_))|(with_reducible first|refine gG ?_ ?_|refine ⟨fun h => ?_, fun h => ?_⟩ <;> try omega|refine andG ?_)|refine cp hf ?_ (hi := by (simp [idsL, idsE, AV.ids, hid]))|simp (disch := try exact discB) only [push_cast, simprocAttr, a0, hL, e1, hne, hk])
  ·rw [if_neg hlt];simp only [PE.bind];obtain rfl : a = ts.length := by omega
   have hf := hf (ts.length - 1) 4;have hmx : (if (0 : Int) > (ts.length : Int) - 1 then (0 : Int) else (ts.length : Int) - 1) = ((ts.length - 1 : Nat) : Int) := by split <;> omega
   unfold stR at *;refine wb0 0 49 [.cell 2 123, .tmp 3] Tryz.func72 rfl rfl rfl (by simp) ?_;intro s ⟨a0, hz⟩;clear hz;repeat' (first|(first|refine nav ?_|(refine g0_ ?_; first|refine dN (p := [0, 1, 1, 1, 1, 1, 1, 1]) [(47, 4), (48, 47)] [(2, some 2)] [] ?_|refine goD ?_))|(with_reducible first|refine gG ?_ ?_|refine ⟨fun h => ?_, fun h => ?_⟩ <;> try omega|refine andG ?_)|refine cp hf ?_ (hi := by (simp [idsL, idsE, AV.ids, hid]))|simp (disch := try exact discB) only [push_cast, simprocAttr, a0, hL, hmx])
 ·rw [if_pos he];unfold stR at *;refine wb0 0 49 [.cell 2 123, .tmp 3] Tryz.func72 rfl rfl rfl (by simp) ?_;intro s ⟨a0, hz⟩;clear hz;repeat' (first|(first|refine nav ?_|(refine g0_ ?_; first|refine dN (p := [0, 1, 1, 1, 1, 1, 1, 1]) [(47, 4), (48, 47)] [(2, some 2)] [] ?_|refine goD ?_))|(with_reducible first|refine gG ?_ ?_|refine ⟨fun h => ?_, fun h => ?_⟩ <;> try omega|refine andG ?_)|simp (disch := try exact discB) only [push_cast, simprocAttr, a0, he])
theorem of74 (z : Nat) (ns : List Bs) (cn : Option Nat) (r : RS) (hl : ts.length ≤ 1000000) (hr : r.2 = 0 → r.1 ≤ ts.length) (hz : ns = [] ∨ z = 1) (hn : ns.length ≤ 1000000) : PC Tryz.prog G0 74 [.agg (stR ts c r.1 r.2 g), .sl z (strs ns) cn] (.tup [.agg (stR ts c (ofS' ts ns r).1.1 (ofS' ts ns r).1.2 g), .int .i64 (ofS' ts ns r).2]) := by
 obtain ⟨a, e⟩ := r;have hid := fun p a e => kP0 p ts c a e g;have hin : ∀ p, idsE p (strs ns) = true := fun p => xa0 p _;have hN := kcx9 ts c g (a, e) hl hr;have hf := fun a e a' e' => qaO9 ts c g a e a' e';have hI := fun s => vaj9 z ns cn s hz hn;unfold ofS' ofM;unfold qap9 at hN;simp only at hr hN ⊢;by_cases he : e = 0
 ·subst he;rw [if_neg (by decide)] at hN ⊢;cases hnm : wh0 ts a with
  | no k e1 =>
   rw [hnm] at hN;simp only [PE.bind];have he1 : ¬ e1 = 0 := by
    unfold wh0 xp0 at hnm;split at hnm
    ·simp only [PE.bind] at hnm;split at hnm
     ·split at hnm
      ·injection hnm with _ q; omega
      ·cases hnm
     ·injection hnm with _ q; omega
    ·injection hnm with _ q; omega
   unfold stR at *;refine wb0 0 29 [.cell 4 123, .tmp 5] Tryz.func74 rfl rfl rfl (by simp) ?_;intro s ⟨a0, a1, hz⟩;simp only [l'g, Nat.reduceAdd] at a1;clear hz;repeat' (first|refine nv ?_|(with_reducible first|refine gG ?_ ?_|refine ⟨fun h => ?_, fun h => ?_⟩ <;> try omega|refine andG ?_)|refine cp hN ?_ (hi := by (simp [idsL, idsE, AV.ids, hid, hin]))|simp (disch := try exact discB) only [push_cast, simprocAttr, a0, a1, he1])
  | ok s0 =>
   rw [hnm] at hN;simp only [PE.bind];have hI := hI s0;have hix : idxI ns s0 = if idxB ns s0 < ns.length then (idxB ns s0 : Int) else -1 := by
    have := kbv9 ns s0;split
    ·exact this.1 ‹_›
    ·exact this.2 ‹_›
   by_cases hlt : idxB ns s0 < ns.length
   ·rw [if_pos hlt] at hix ⊢;rw [hix] at hI;generalize idxB ns s0 = v at *;unfold stR at *;refine wb0 0 29 [.cell 4 123, .tmp 5] Tryz.func74 rfl rfl rfl (by simp) ?_;intro s ⟨a0, a1, hz⟩;simp only [l'g, Nat.reduceAdd] at a1;clear hz;repeat' (first|refine nv ?_|(with_reducible first|refine gG ?_ ?_|refine ⟨fun h => ?_, fun h => ?_⟩ <;> try omega|refine andG ?_)|refine cp hN ?_ (hi := by (simp [idsL, idsE, AV.ids, hid, hin]))|refine cp hI ?_ (hi := by (simp [idsL, idsE, AV.ids, hid, hin]))|simp (disch := try exact discB) only [push_cast, simprocAttr, a0, a1])
   ·rw [if_neg hlt] at hix ⊢;rw [hix] at hI;have hf := hf (a + 1) 0 a 7;have hcast : ((a : Int) + 1 - 1) = (a : Int) := by omega
    unfold stR at *;refine wb0 0 29 [.cell 4 123, .tmp 5] Tryz.func74 rfl rfl rfl (by simp) ?_;intro s ⟨a0, a1, hz⟩;simp only [l'g, Nat.reduceAdd] at a1;clear hz;repeat' (first|refine nv ?_|(with_reducible first|refine gG ?_ ?_|refine ⟨fun h => ?_, fun h => ?_⟩ <;> try omega|refine andG ?_)|refine cp hN ?_ (hi := by (simp [idsL, idsE, AV.ids, hid, hin]))|refine cp hI ?_ (hi := by (simp [idsL, idsE, AV.ids, hid, hin]))|refine cp hf ?_ (hi := by (simp [idsL, idsE, AV.ids, hid, hin]))|simp (disch := try exact discB) only [push_cast, simprocAttr, a0, a1, hcast])
 ·rw [if_pos he] at hN ⊢;unfold stR at *;refine wb0 0 29 [.cell 4 123, .tmp 5] Tryz.func74 rfl rfl rfl (by simp) ?_;intro s ⟨a0, a1, hz⟩;simp only [l'g, Nat.reduceAdd] at a1;clear hz;repeat' (first|refine nv ?_|(with_reducible first|refine gG ?_ ?_|refine ⟨fun h => ?_, fun h => ?_⟩ <;> try omega|refine andG ?_)|refine cp hN ?_ (hi := by (simp [idsL, idsE, AV.ids, hid, hin]))|simp (disch := try exact discB) only [push_cast, simprocAttr, a0, a1, he])
end
end Go.Proofs
