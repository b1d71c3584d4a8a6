import Derived.Test.YtlpjemobbjijdaaGreatDoorS49
import Derived.Test.YtlpjemobbjijdaaGreatDoorSP8
import Derived.Test.YtlpjemobbjijdaaGreatDoorS44
import Derived.Test.YtlpjemobbjijdaaGreatDoorS28
import Derived.Test.YtlpjemobbjijdaaGreatDoorS27
import Derived.Test.YtlpjemobbjijdaaGreatDoorS30
import Derived.Test.YtlpjemobbjijdaaGreatDoorS38
namespace Go.Proofs
open Go Go.V
set_option linter.unusedVariables false
set_option linter.unusedSimpArgs false
set_option maxHeartbeats 0
set_option maxRecDepth 100000
def z0 : GS := ⟨[], 0, 0, 0, [], some 0, 0, [], some 0, 0, [], some 0, 0, [], some 0⟩
theorem kcB9 (p : zar9) : vbF9 p = .agg (gsP p (some p.ins.length) (some p.ins.length) (some p.outs.length) (some p.sts.length) (some p.sts.length)).A := by
 unfold vbF9 GS.A gsP vc0
 rw [List.map_map]; rfl
end Go.Proofs
namespace Go.Proofs
open Go Go.V
set_option linter.unusedVariables false
set_option linter.unusedSimpArgs false
set_option maxHeartbeats 0
set_option maxRecDepth 100000
theorem qcC9 {x : GS} (h : x.V) (hn : x.rows.length ≤ 6) : (qy0 x).length ≤ 65536 := by
 have a := qbu9 h
 have b := wW0 h _ (Nat.le_refl _)
 have c : (lnL [kEnd]).length = 5 := by decide
 simp only [qy0, List.length_append, c]
 omega
theorem xaZ9 {x y : GS} (hx : x.V) (hy : y.V) : vcb9 x y = wat9 x y := by
 unfold vcb9 wat9 wcb9
 rw [chkS_zero.2 hx, chkS_zero.2 hy, hx.m, hy.m, Bool.eq_iff_iff]
 simp only [GS.lists, List.cons.injEq, and_true, decide_true, Bool.true_and, Bool.and_eq_true, decide_eq_true_eq]
 constructor
 ·rintro ⟨⟨⟨⟨a, ⟨b, c⟩, d⟩, e⟩, f⟩, g⟩; exact ⟨⟨a, e, f, g⟩, b, c, d⟩
 ·rintro ⟨⟨a, e, f, g⟩, b, c, d⟩; exact ⟨⟨⟨⟨a, ⟨b, c⟩, d⟩, e⟩, f⟩, g⟩
theorem law4 (x : ND) (z : Nat) (c : Option Nat) (x2 : ND) (z2 : Nat) (c2 : Option Nat) (hx : x.m.Ok) (hn : x.nm < 256) (hz : x.m.es = [] ∨ z = 1) (hx2 : x2.m.Ok) (hn2 : x2.nm < 256) (hz2 : x2.m.es = [] ∨ z2 = 1) : PC Tryz.prog G0 4 [.agg (ndC x z c), .agg (ndC x2 z2 c2)] (.bool true) := by
 have hie : ∀ p, idsL p (ndC x z c) = true := fun p => by simp [ndC, mdC, idsL, AV.ids]
 have hie2 : ∀ p, idsL p (ndC x2 z2 c2) = true := fun p => by simp [ndC, mdC, idsL, AV.ids]
 have hv := x.v
 have hok := x.ok
 have hv2 := x2.v
 have hok2 := x2.ok
 have h21 := of21 x z c hx hn hz
 have h21b := of21 x2 z2 c2 hx2 hn2 hz2
 have hrl : x.G.rows.length ≤ 6 := by show (x.m.rows x.m.n).length ≤ 6; rw [MD.rows_len]; have := x.m.bn; omega
 have htl := qcC9 hv hrl
 obtain ⟨ts, ho, hp⟩ := zbl9 hv htl
 have hg := vbG9 (by have := (wbu9 (qy0 x.G)).2; rw [ho] at this; exact this) hp (vcf9 hp)
 have h22 := zac9 (qy0 x.G) (by omega) (by have := (wbu9 (qy0 x.G)).1; omega)
 unfold waf9 at h22
 rw [ho] at h22
 simp only at h22
 rw [if_pos trivial, hp] at h22
 simp only at h22
 rw [kcB9] at h22
 have h14 := kcE9 x.G hok
 unfold zcz9 bigT at h14
 rw [if_pos (chkS_zero.2 hv), decide_eq_false (by omega), if_neg (by decide)] at h14
 have h15 := kdo9 x.G hok hv
 have hlv := wcY9
 have h13b := kcb9 x.G x2.G hok hok2
 rw [xaZ9 hv hv2] at h13b
 have h23b := waY9 x.G x2.G hok hok2
 have hyv := zdq9 hg (some x.G.ins.length) (some x.G.ins.length) (some x.G.outs.length) (some x.G.sts.length) (some x.G.sts.length)
 have hyo := xdq9 hg (some x.G.ins.length) (some x.G.ins.length) (some x.G.outs.length) (some x.G.sts.length) (some x.G.sts.length)
 have hre : wat9 x.G (gsP ⟨x.G.nm, x.G.ins, x.G.outs, x.G.sts, edgesOf x.G.rows⟩ (some x.G.ins.length) (some x.G.ins.length) (some x.G.outs.length) (some x.G.sts.length) (some x.G.sts.length)) = true := by
  unfold wat9
  rw [vat9, decide_eq_true (show x.G.lists = (gsP ⟨x.G.nm, x.G.ins, x.G.outs, x.G.sts, edgesOf x.G.rows⟩ (some x.G.ins.length) (some x.G.ins.length) (some x.G.outs.length) (some x.G.sts.length) (some x.G.sts.length)).lists from rfl), decide_eq_true ⟨hv.ci.symm, hv.co.symm, rfl⟩]; rfl
 have h23 := waY9 _ _ hok hyo
 have h13 := kcb9 _ _ hok hyo
 rw [xaZ9 hv hyv, hre] at h13
 rw [hre] at h23
 have hid := fun p => zz0 p x.G
 have hid2 := fun p => zz0 p x2.G
 have hyrl : (gsP ⟨x.G.nm, x.G.ins, x.G.outs, x.G.sts, edgesOf x.G.rows⟩ (some x.G.ins.length) (some x.G.ins.length) (some x.G.outs.length) (some x.G.sts.length) (some x.G.sts.length)).rows.length = x.G.sts.length := hyv.cs.symm
 have hyrow : ∀ j, j < x.G.sts.length → (gsP ⟨x.G.nm, x.G.ins, x.G.outs, x.G.sts, edgesOf x.G.rows⟩ (some x.G.ins.length) (some x.G.ins.length) (some x.G.outs.length) (some x.G.sts.length) (some x.G.sts.length)).rows.getD j ([], none) = ((edgesOf x.G.rows).getD j [], some x.G.ins.length) := fun j hj => by
  have hl : j < (edgesOf x.G.rows).length := by rw [qas9, ← hv.cs]; exact hj
  show ((edgesOf x.G.rows).map fun r => (r, some x.G.ins.length)).getD j ([], none) = _
  rw [List.getD_eq_getElem?_getD, List.getElem?_map, List.getElem?_eq_getElem hl, List.getD_eq_getElem?_getD, List.getElem?_eq_getElem hl]; rfl
 have hrect := kJ0 hv
 have hidy := fun p => zz0 p (gsP ⟨x.G.nm, x.G.ins, x.G.outs, x.G.sts, edgesOf x.G.rows⟩ (some x.G.ins.length) (some x.G.ins.length) (some x.G.outs.length) (some x.G.sts.length) (some x.G.sts.length))
 have hyA : (gsP ⟨x.G.nm, x.G.ins, x.G.outs, x.G.sts, edgesOf x.G.rows⟩ (some x.G.ins.length) (some x.G.ins.length) (some x.G.outs.length) (some x.G.sts.length) (some x.G.sts.length)).A = [.str x.G.nm, .int .i64 x.G.ins.length, .int .i64 x.G.outs.length, .sl 1 (vc0 (gsP ⟨x.G.nm, x.G.ins, x.G.outs, x.G.sts, edgesOf x.G.rows⟩ (some x.G.ins.length) (some x.G.ins.length) (some x.G.outs.length) (some x.G.sts.length) (some x.G.sts.length)).rows) (some x.G.sts.length), .sl 1 (strs x.G.ins) (some x.G.ins.length), .sl 1 (strs x.G.outs) (some x.G.outs.length), .sl 1 (strs x.G.sts) (some x.G.sts.length)] := rfl
 have t1 := wa0 x.G.ins
 have t2 := wa0 x.G.outs
 have t3 := wa0 x.G.sts
 have t4 := vn0 (gsP ⟨x.G.nm, x.G.ins, x.G.outs, x.G.sts, edgesOf x.G.rows⟩ (some x.G.ins.length) (some x.G.ins.length) (some x.G.outs.length) (some x.G.sts.length) (some x.G.sts.length)).rows
 rw [hyrl] at t4
 have hcn := hv.cnts
 rw [hyA] at h22 h23 h13 hidy
 generalize gsP ⟨x.G.nm, x.G.ins, x.G.outs, x.G.sts, edgesOf x.G.rows⟩ (some x.G.ins.length) (some x.G.ins.length) (some x.G.outs.length) (some x.G.sts.length) (some x.G.sts.length) = y at *
 generalize wat9 x.G x2.G = eb at *
 generalize qy0 x.G = T at *
 unfold GS.A at *
 generalize x.G = g at *
 generalize x2.G = g2 at *
 clear hyA hg hp ho hre
 unfold ndC mdC at *
 simp only [List.cons_append, List.nil_append] at *
 refine zd0 0 131 [.tmp 4] Tryz.func4 rfl rfl rfl (by simp) ?_
 intro s ⟨a0, a1, hz⟩
 simp only [Nat.zero_add, Nat.reduceAdd] at a1
 clear hz
 repeat' (first|(first|refine nav ?_|(refine g0_ ?_; first|refine dN (p := [0, 1]) [] [] [(4, 6), (5, 6)] ?_|refine goD ?_))|(with_reducible first|refine gG ?_ ?_|(refine And.intro (fun h => ?_) (fun h => ?_)) <;> try omega|refine andG ?_)|refine cp h21 ?_ (hi := by (simp [idsL, idsE, AV.ids, hie, hie2, hid, hid2, hidy]))|refine cp h21b ?_ (hi := by (simp [idsL, idsE, AV.ids, hie, hie2, hid, hid2, hidy]))|refine cp h14 ?_ (hi := by (simp [idsL, idsE, AV.ids, hie, hie2, hid, hid2, hidy]))|refine cp h22 ?_ (hi := by (simp [idsL, idsE, AV.ids, hie, hie2, hid, hid2, hidy]))|refine cp h15 ?_ (hi := by (simp [idsL, idsE, AV.ids, hie, hie2, hid, hid2, hidy]))|refine cp h23 ?_ (hi := by (simp [idsL, idsE, AV.ids, hie, hie2, hid, hid2, hidy]))|refine cp h13 ?_ (hi := by (simp [idsL, idsE, AV.ids, hie, hie2, hid, hid2, hidy]))|refine cp h13b ?_ (hi := by (simp [idsL, idsE, AV.ids, hie, hie2, hid, hid2, hidy]))|refine cp h23b ?_ (hi := by (simp [idsL, idsE, AV.ids, hie, hie2, hid, hid2, hidy]))|refine cp hlv ?_ (hi := by (simp [idsL, idsE, AV.ids, hie, hie2, hid, hid2, hidy]))|simp (disch := try exact discB) only [push_cast, simprocAttr, a0, a1, t1, t2, t3, t4])
 refine go_loop rfl (fun mz s' H' => ∃ k : Nat, k ≤ g.sts.length ∧ mz = g.sts.length - k ∧ H' = [.row 6 46 [[.int .u8 x.m.st, .int .u8 x.m.inp, .int .u8 x.m.ou, .bool x.m.pa, .sl z (u16s x.m.es) c, .int .u8 x.nm]], .row 6 46 [[.int .u8 x2.m.st, .int .u8 x2.m.inp, .int .u8 x2.m.ou, .bool x2.m.pa, .sl z2 (u16s x2.m.es) c2, .int .u8 x2.nm]], .row 7 27 [[.str g.nm, .int .i64 g.i, .int .i64 g.o, .sl g.zr (vc0 g.rows) g.cr, .sl g.zi (strs g.ins) g.ci, .sl g.zo (strs g.outs) g.co, .sl g.zs (strs g.sts) g.cs]], .row 7 27 [[.str g2.nm, .int .i64 g2.i, .int .i64 g2.o, .sl g2.zr (vc0 g2.rows) g2.cr, .sl g2.zi (strs g2.ins) g2.ci, .sl g2.zo (strs g2.outs) g2.co, .sl g2.zs (strs g2.sts) g2.cs]], .row 7 27 [[.str g.nm, .int .i64 g.ins.length, .int .i64 g.outs.length, .sl 1 (vc0 y.rows) (some g.sts.length), .sl 1 (strs g.ins) (some g.ins.length), .sl 1 (strs g.outs) (some g.outs.length), .sl 1 (strs g.sts) (some g.sts.length)]]] ∧ s' 5 = .ptr 2 0 0 1 ∧ s' 6 = .ptr 3 0 0 1 ∧ s' 9 = .ptr 4 0 0 1 ∧ s' 13 = .int .i64 k) (m := g.sts.length) (by first|exact xb0|fail) (Weak.refl _ _) ⟨0, by omega, by omega, rfl, ?_⟩ ?_
 ·simp (disch := try exact discB) only [push_cast, simprocAttr, a0, a1, t1, t2, t3, t4]
 ·rintro mz s' H' ⟨k, hk, rfl, rfl, b5, b6, b9, b13⟩
  rcases Nat.lt_or_ge k g.sts.length with hlt|hge
  ·have e1 := kn0 y.rows k (by rw [hyrl]; exact hlt)
   rw [hyrow k hlt] at e1
   have e2 := hrect.2 k hlt
   have e3 : (rowA ((edgesOf g.rows).getD k [])).length = g.ins.length := by rw [wg0, e2]
   repeat' (first|(first|refine nav ?_|(refine g0_ ?_; first|refine dN (p := [0, 1]) [] [] [(4, 6), (5, 6)] ?_|refine goD ?_))|(with_reducible first|refine gG ?_ ?_|(refine And.intro (fun h => ?_) (fun h => ?_)) <;> try omega|refine andG ?_)|refine cp h21 ?_ (hi := by (simp [idsL, idsE, AV.ids, hie, hie2, hid, hid2, hidy]))|refine cp h21b ?_ (hi := by (simp [idsL, idsE, AV.ids, hie, hie2, hid, hid2, hidy]))|refine cp h14 ?_ (hi := by (simp [idsL, idsE, AV.ids, hie, hie2, hid, hid2, hidy]))|refine cp h22 ?_ (hi := by (simp [idsL, idsE, AV.ids, hie, hie2, hid, hid2, hidy]))|refine cp h15 ?_ (hi := by (simp [idsL, idsE, AV.ids, hie, hie2, hid, hid2, hidy]))|refine cp h23 ?_ (hi := by (simp [idsL, idsE, AV.ids, hie, hie2, hid, hid2, hidy]))|refine cp h13 ?_ (hi := by (simp [idsL, idsE, AV.ids, hie, hie2, hid, hid2, hidy]))|refine cp h13b ?_ (hi := by (simp [idsL, idsE, AV.ids, hie, hie2, hid, hid2, hidy]))|refine cp h23b ?_ (hi := by (simp [idsL, idsE, AV.ids, hie, hie2, hid, hid2, hidy]))|refine cp hlv ?_ (hi := by (simp [idsL, idsE, AV.ids, hie, hie2, hid, hid2, hidy]))|simp (disch := try exact discB) only [push_cast, simprocAttr, b5, b6, b9, b13, e1, e3, t4])
   refine zb0 (g.sts.length - (k + 1)) (by omega) (by first|exact xb0|fail) ⟨k + 1, by omega, rfl, rfl, ?_⟩
   simp (disch := try exact discB) only [push_cast, simprocAttr, b5, b6, b9, b13, e1, e3, t4]
  ·obtain rfl : k = g.sts.length := by omega
   repeat' (first|(first|refine nav ?_|(refine g0_ ?_; first|refine dN (p := [0, 1]) [] [] [(4, 6), (5, 6)] ?_|refine goD ?_))|(with_reducible first|refine gG ?_ ?_|(refine And.intro (fun h => ?_) (fun h => ?_)) <;> try omega|refine andG ?_)|refine cp h21 ?_ (hi := by (simp [idsL, idsE, AV.ids, hie, hie2, hid, hid2, hidy]))|refine cp h21b ?_ (hi := by (simp [idsL, idsE, AV.ids, hie, hie2, hid, hid2, hidy]))|refine cp h14 ?_ (hi := by (simp [idsL, idsE, AV.ids, hie, hie2, hid, hid2, hidy]))|refine cp h22 ?_ (hi := by (simp [idsL, idsE, AV.ids, hie, hie2, hid, hid2, hidy]))|refine cp h15 ?_ (hi := by (simp [idsL, idsE, AV.ids, hie, hie2, hid, hid2, hidy]))|refine cp h23 ?_ (hi := by (simp [idsL, idsE, AV.ids, hie, hie2, hid, hid2, hidy]))|refine cp h13 ?_ (hi := by (simp [idsL, idsE, AV.ids, hie, hie2, hid, hid2, hidy]))|refine cp h13b ?_ (hi := by (simp [idsL, idsE, AV.ids, hie, hie2, hid, hid2, hidy]))|refine cp h23b ?_ (hi := by (simp [idsL, idsE, AV.ids, hie, hie2, hid, hid2, hidy]))|refine cp hlv ?_ (hi := by (simp [idsL, idsE, AV.ids, hie, hie2, hid, hid2, hidy]))|simp (disch := try exact discB) only [push_cast, simprocAttr, b5, b6, b9, b13, t4])
end Go.Proofs
