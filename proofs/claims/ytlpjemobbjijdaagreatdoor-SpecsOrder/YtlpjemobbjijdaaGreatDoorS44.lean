import Derived.Test.YtlpjemobbjijdaaGreatDoorS18
import Derived.Test.YtlpjemobbjijdaaGreatDoorS4
import Derived.Test.YtlpjemobbjijdaaGreatDoorS13
namespace Go.Proofs
open Go Go.V
set_option linter.unusedVariables false
set_option linter.unusedSimpArgs false
set_option maxHeartbeats 0
set_option maxRecDepth 100000
def lgA (x : GS) : List (List AV) := [[.sl 1 (strs [x.nm]) (some 1)], [.sl x.zi (strs x.ins) x.ci], [.sl x.zo (strs x.outs) x.co], [.sl x.zs (strs x.sts) x.cs]]
def lgZ (x : GS) (k : Nat) : Nat := match k with|0 => 1|1 => x.zi|2 => x.zo|_ => x.zs
theorem kcj9 (x : GS) (k : Nat) (h : k < 4) : (lgA x).getD k [] = [.sl (lgZ x k) (strs (x.lists.getD k [])) (lsC x k)] := by
 have : k = 0 ∨ k = 1 ∨ k = 2 ∨ k = 3 := by omega
 rcases this with rfl|rfl|rfl|rfl <;> rfl
theorem lg_z {x : GS} (hx : x.Ok) (k : Nat) (h : k < 4) : (x.lists.getD k [] = [] ∨ lgZ x k = 1) ∧ (x.lists.getD k []).length ≤ 1000000 := by
 have : k = 0 ∨ k = 1 ∨ k = 2 ∨ k = 3 := by omega
 rcases this with rfl|rfl|rfl|rfl
 ·exact ⟨.inr rfl, by show 1 ≤ 1000000; omega⟩
 ·exact ⟨hx.i, hx.li⟩
 ·exact ⟨hx.o, hx.lo⟩
 ·exact ⟨hx.s, hx.ls⟩
def qby9 (x y : GS) : Bool := decide (x.lists = y.lists) && decide (x.i = y.i ∧ x.o = y.o ∧ edgesOf x.rows = edgesOf y.rows)
theorem kcL9 (x : GS) : x.lists.length = 4 := rfl
theorem qck9 (x y : GS) (hx : x.Ok) (hy : y.Ok) : PC Tryz.prog G0 23 [.agg x.A, .agg y.A] (.bool (qby9 x y)) := by
 have h69 := vce9 x.i x.o x.rows x.zr x.cr y.i y.o y.rows y.zr y.cr hx.r hy.r hx.lr hy.lr hx.lw hy.lw
 have hid := fun p => zE0 p x
 have hid2 := fun p => zE0 p y
 have gx := kcj9 x
 have gy := kcj9 y
 have zx := lg_z hx
 have zy := lg_z hy
 have hi1 : ∀ p, idsE p (kc0 x.rows) = true := fun p => xf0 p _
 have hi2 : ∀ p, idsE p (kc0 y.rows) = true := fun p => xf0 p _
 unfold qby9
 generalize decide (x.i = y.i ∧ x.o = y.o ∧ edgesOf x.rows = edgesOf y.rows) = b at *
 have hXA : lgA x = [[.sl 1 [[.str x.nm]] (some 1)], [.sl x.zi (strs x.ins) x.ci], [.sl x.zo (strs x.outs) x.co], [.sl x.zs (strs x.sts) x.cs]] := rfl
 have hYA : lgA y = [[.sl 1 [[.str y.nm]] (some 1)], [.sl y.zi (strs y.ins) y.ci], [.sl y.zo (strs y.outs) y.co], [.sl y.zs (strs y.sts) y.cs]] := rfl
 have hxl : (lgA x).length = 4 := rfl
 have hyl : (lgA y).length = 4 := rfl
 unfold GS.A at *
 refine xd0 0 73 [.tmp 4] Tryz.func23 rfl rfl rfl (by simp) ?_
 intro s ⟨a0, a1, hz⟩
 simp only [Nat.zero_add, Nat.reduceAdd] at a1
 clear hz
 repeat' (first|refine nv ?_|(with_reducible first|refine gG ?_ ?_|(refine And.intro (fun h => ?_) (fun h => ?_)) <;> try omega|refine andG ?_)|simp (disch := try exact discB) only [push_cast, simprocAttr, a0, a1])
 rw [hXA] at gx hxl
 rw [hYA] at gy hyl
 generalize [[AV.sl 1 [[AV.str x.nm]] (some 1)], [AV.sl x.zi (strs x.ins) x.ci], [AV.sl x.zo (strs x.outs) x.co], [AV.sl x.zs (strs x.sts) x.cs]] = XS at *
 generalize [[AV.sl 1 [[AV.str y.nm]] (some 1)], [AV.sl y.zi (strs y.ins) y.ci], [AV.sl y.zo (strs y.outs) y.co], [AV.sl y.zs (strs y.sts) y.cs]] = YS at *
 refine go_loop rfl (fun mz s' H' => ∃ k : Nat, k ≤ 4 ∧ mz = 4 - k ∧ H' = [.row 7 27 [[.str x.nm, .int .i64 x.i, .int .i64 x.o, .sl x.zr (kc0 x.rows) x.cr, .sl x.zi (strs x.ins) x.ci, .sl x.zo (strs x.outs) x.co, .sl x.zs (strs x.sts) x.cs]], .row 7 27 [[.str y.nm, .int .i64 y.i, .int .i64 y.o, .sl y.zr (kc0 y.rows) y.cr, .sl y.zi (strs y.ins) y.ci, .sl y.zo (strs y.outs) y.co, .sl y.zs (strs y.sts) y.cs]]] ∧ s' 2 = .ptr 0 0 0 1 ∧ s' 3 = .ptr 1 0 0 1 ∧ s' 5 = .sl 1 XS (some 4) ∧ s' 6 = .sl 1 YS (some 4) ∧ s' 7 = .int .i64 k ∧ ∀ j, j < k → x.lists.getD j [] = y.lists.getD j []) (m := 4) (by first|exact xb0|fail) (Weak.refl _ _) ⟨0, by omega, by omega, rfl, ?_⟩ ?_
 ·simp (disch := try exact discB) only [push_cast, simprocAttr, a0, a1]
  all_goals exact fun j hj => by omega
 ·rintro mz s' H' ⟨k, hk, rfl, rfl, b2, b3, b5, b6, b7, ik⟩
  rcases Nat.lt_or_ge k 4 with hlt|hge
  ·have e1 := gx k hlt
   have e2 := gy k hlt
   obtain ⟨z1, b1'⟩ := zx k hlt
   obtain ⟨z2, b2'⟩ := zy k hlt
   have hsn := xad9 (P := fun j => x.lists.getD j [] = y.lists.getD j []) (k := k) ik
   have hno : x.lists.getD k [] ≠ y.lists.getD k [] → decide (x.lists = y.lists) = false := fun h => decide_eq_false fun e => h (by rw [e])
   generalize x.lists.getD k [] = l at *
   generalize y.lists.getD k [] = m at *
   generalize lgZ x k = zl at *
   generalize lgZ y k = zm at *
   have hl1 := wa0 l
   have hl2 := wa0 m
   repeat' (first|refine nv ?_|(with_reducible first|refine gG ?_ ?_|(refine And.intro (fun h => ?_) (fun h => ?_)) <;> try omega|refine andG ?_)|simp (disch := try exact discB) only [push_cast, simprocAttr, b2, b3, b5, b6, b7, e1, e2, hxl, hyl, hl1, hl2])
   ·rw [hno (fun e => by rw [e] at h; omega)]; rfl
   ·rename_i hlen
    have hlm : l.length = m.length := by omega
    refine go_loop rfl (fun mz s' H' => ∃ q : Nat, q ≤ l.length ∧ mz = l.length - q ∧ H' = [.row 7 27 [[.str x.nm, .int .i64 x.i, .int .i64 x.o, .sl x.zr (kc0 x.rows) x.cr, .sl x.zi (strs x.ins) x.ci, .sl x.zo (strs x.outs) x.co, .sl x.zs (strs x.sts) x.cs]], .row 7 27 [[.str y.nm, .int .i64 y.i, .int .i64 y.o, .sl y.zr (kc0 y.rows) y.cr, .sl y.zi (strs y.ins) y.ci, .sl y.zo (strs y.outs) y.co, .sl y.zs (strs y.sts) y.cs]]] ∧ s' 2 = .ptr 0 0 0 1 ∧ s' 3 = .ptr 1 0 0 1 ∧ s' 5 = .sl 1 XS (some 4) ∧ s' 6 = .sl 1 YS (some 4) ∧ s' 7 = .int .i64 k ∧ s' 8 = .int .i64 q ∧ ∀ j, j < q → l.getD j [] = m.getD j []) (m := l.length) (by first|exact xb0|fail) (Weak.refl _ _) ⟨0, by omega, by omega, rfl, ?_⟩ ?_
    ·simp (disch := try exact discB) only [push_cast, simprocAttr, b2, b3, b5, b6, b7, e1, e2, hxl, hyl, hl1, hl2]
     all_goals exact fun j hj => by omega
    ·clear b2 b3 b5 b6 b7
     rintro mz s' H' ⟨q, hq, rfl, rfl, b2, b3, b5, b6, b7, b8, iq⟩
     rcases Nat.lt_or_ge q l.length with hlt2|hge2
     ·obtain rfl := z1.resolve_left (by intro h; rw [h] at hlt2; simp at hlt2)
      obtain rfl := z2.resolve_left (by intro h; rw [h] at hlm; simp at hlm; rw [hlm] at hlt2; simp at hlt2)
      have e3 := vd0 l q hlt2
      have e4 := vd0 m q (by omega)
      have hsn2 := xad9 (P := fun j => l.getD j [] = m.getD j []) (k := q) iq
      have hno2 : l.getD q [] ≠ m.getD q [] → l ≠ m := fun h e => h (by rw [e])
      generalize l.getD q [] = u at *
      generalize m.getD q [] = v at *
      by_cases huv : u = v
      ·subst huv
       repeat' (first|refine nv ?_|(with_reducible first|refine gG ?_ ?_|(refine And.intro (fun h => ?_) (fun h => ?_)) <;> try omega|refine andG ?_)|simp (disch := try exact discB) only [push_cast, simprocAttr, b2, b3, b5, b6, b7, b8, e1, e2, e3, e4, hxl, hyl, hl1, hl2])
       refine zb0 (l.length - (q + 1)) (by omega) (by first|exact xb0|fail) ⟨q + 1, by omega, rfl, rfl, ?_⟩
       simp (disch := try exact discB) only [push_cast, simprocAttr, b2, b3, b5, b6, b7, b8, e1, e2, e3, e4, hxl, hyl, hl1, hl2]
       all_goals exact hsn2 rfl
      ·have hd : decide (u = v) = false := decide_eq_false huv
       repeat' (first|refine nv ?_|(with_reducible first|refine gG ?_ ?_|(refine And.intro (fun h => ?_) (fun h => ?_)) <;> try omega|refine andG ?_)|simp (disch := try exact discB) only [push_cast, simprocAttr, b2, b3, b5, b6, b7, b8, e1, e2, e3, e4, hxl, hyl, hl1, hl2, huv, hd])
       rw [hno (hno2 huv)]; rfl
     ·obtain rfl : q = l.length := by omega
      repeat' (first|refine nv ?_|(with_reducible first|refine gG ?_ ?_|(refine And.intro (fun h => ?_) (fun h => ?_)) <;> try omega|refine andG ?_)|simp (disch := try exact discB) only [push_cast, simprocAttr, b2, b3, b5, b6, b7, b8, e1, e2, hxl, hyl, hl1, hl2])
      refine zb0 (4 - (k + 1)) (by omega) (by first|exact xb0|fail) ⟨k + 1, by omega, rfl, rfl, ?_⟩
      simp (disch := try exact discB) only [push_cast, simprocAttr, b2, b3, b5, b6, b7, b8, e1, e2, hxl, hyl, hl1, hl2]
      all_goals exact hsn (xD0 [] hlm iq)
  ·obtain rfl : k = 4 := by omega
   rw [decide_eq_true (xD0 [] (by rw [kcL9, kcL9]) (fun j hj => ik j hj) : x.lists = y.lists), Bool.true_and]
   repeat' (first|refine nv ?_|(with_reducible first|refine gG ?_ ?_|(refine And.intro (fun h => ?_) (fun h => ?_)) <;> try omega|refine andG ?_)|refine cp h69 ?_ (hi := by (simp [idsL, idsE, AV.ids, hi1, hi2]))|simp (disch := try exact discB) only [push_cast, simprocAttr, b2, b3, b5, b6, b7, hxl, hyl])
end Go.Proofs
namespace Go.Proofs
open Go Go.V
set_option linter.unusedVariables false
set_option linter.unusedSimpArgs false
set_option maxHeartbeats 0
set_option maxRecDepth 100000
abbrev RS := Nat × Int
def ky0 (l : List Tk) (w : Bs) (r : RS) : RS := if r.2 ≠ 0 then r else match we0 l w r.1 with|.ok _ => (r.1 + 1, 0)|.no k e => (k, e)
def vem9 (l : List Tk) (r : RS) : RS × Bs := if r.2 ≠ 0 then (r, []) else match ql0 l r.1 with|.ok s => ((r.1 + 1, 0), s)|.no k e => ((k, e), [])
def ofS' (l : List Tk) (ns : List Bs) (r : RS) : RS × Nat := if r.2 ≠ 0 then (r, 0) else match ofM l ns r.1 with|.ok k => ((r.1 + 1, 0), k)|.no k e => ((k, e), 0)
structure RX where
 nm : Bs
 zi : Nat
 I : List Bs
 ci : Option Nat
 zo : Nat
 O : List Bs
 co : Option Nat
 zs : Nat
 S : List Bs
 cs : Option Nat
def stR (ts : List Tk) (c : Option Nat) (a : Nat) (e : Int) (g : RX) : List AV := [.sl 4 (tks ts) c, .int .i64 a, .int .i64 e, .str g.nm, .int .i64 0, .int .i64 0, .sl 0 [] (some 0), .sl g.zi (strs g.I) g.ci, .sl g.zo (strs g.O) g.co, .sl g.zs (strs g.S) g.cs]
section
variable (ts : List Tk) (c : Option Nat) (g : RX)
end
end Go.Proofs
