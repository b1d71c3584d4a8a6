import Derived.Test.YtlpjemobbjijdaaGreatDoorS7
import Derived.Test.YtlpjemobbjijdaaGreatDoorV69
import Derived.Test.YtlpjemobbjijdaaGreatDoorV33
import Derived.Test.YtlpjemobbjijdaaGreatDoorV51
import Derived.Test.YtlpjemobbjijdaaGreatDoorAP9
import Derived.Test.YtlpjemobbjijdaaGreatDoorL5
namespace Go.Proofs
open Go Go.V
set_option linter.unusedVariables false
set_option linter.unusedSimpArgs false
set_option maxHeartbeats 0
set_option maxRecDepth 100000
theorem wcT9 (z : Nat) (l : List Bs) (c : Option Nat) : PC Tryz.prog G0 44 [.sl z (strs l) c] (.fn 88 [.iptr [.sl z (strs l) c] 0]) := by
 have hids : ∀ p, idsE p (strs l) = true := fun p => xa0 _ _;generalize strs l = L at *;refine wb0 3 4 [.tmp 2] Tryz.func44 rfl rfl rfl (by simp) ?_;intro s ⟨a0, hz⟩;clear hz;repeat' (first|refine nv ?_|(with_reducible first|refine gG ?_ ?_|refine ⟨fun h => ?_, fun h => ?_⟩ <;> try omega|refine andG ?_)|simp (disch := try exact discB) only [push_cast, simprocAttr, a0])
 all_goals exact hids _
theorem vcT9 (z : Nat) (l : List Bs) (c : Option Nat) (hz : l = [] ∨ z = 1) (hl : l.length ≤ 1000000) : Iter Tryz.prog G0 88 [.iptr [.sl z (strs l) c] 0] (fun q => [.str (l.getD q [])]) l.length := by
 intro K b q stop hs1 hs2 hy hzz;have hL := za0 l;refine zp0 16 [] Tryz.func88 rfl rfl rfl (by simp) ?_;intro s ⟨a0, a1, hz⟩;simp only [l'g, Nat.reduceAdd] at a1;clear hz;repeat' (first|refine nv ?_|(with_reducible first|refine gG ?_ ?_|refine ⟨fun h => ?_, fun h => ?_⟩ <;> try omega|refine andG ?_)|simp (disch := try exact discB) only [push_cast, simprocAttr, a0, a1, hL])
 refine go_loop rfl (fun mz s' H' => ∃ k : Nat, k ≤ l.length ∧ mz = l.length - k ∧ H' = K k ∧ s' 0 = .yld b ∧ s' 1 = .iptr [.sl z (strs l) c] 0 ∧ s' 5 = .sl z (strs l) c ∧ s' 6 = .int .i64 l.length ∧ s' 7 = .int .i64 k ∧ k ≤ q) (m := l.length) (by first|exact va0|fail) (Weak.refl _ _) ⟨0, by omega, by omega, rfl, ?_⟩ ?_
 ·simp (disch := try exact discB) only [push_cast, simprocAttr, a0, a1, hL];omega
 ·rintro mz s' H' ⟨k, hk, rfl, rfl, b0, b1, b5, b6, b7, ik⟩;rcases l'h k l.length with hlt|hge
  ·obtain rfl := hz.resolve_left (by intro h; rw [h] at hlt; simp at hlt);have e1 := vc0 l k hlt;rcases l'h k q with h3|h3
   ·have hyk : kJ0 Tryz.prog G0 b [.str (l.getD k [])] (K k) (.bool true) (K (k + 1)) := hy k h3;generalize l.getD k [] = x at *;repeat' (first|refine nv ?_|(with_reducible first|refine gG ?_ ?_|refine ⟨fun h => ?_, fun h => ?_⟩ <;> try omega|refine andG ?_)|refine cl hyk ?_|simp (disch := try exact discB) only [push_cast, simprocAttr, b0, b1, b5, b6, b7, e1, hL])
    refine wa0 (l.length - (k + 1)) (by omega) (by first|exact va0|fail) ⟨k + 1, by omega, rfl, rfl, ?_⟩;simp (disch := try exact discB) only [push_cast, simprocAttr, b0, b1, b5, b6, b7, e1, hL];omega
   ·obtain rfl : k = q := by omega
    cases stop with
    | false => have := hs2 rfl; omega
    | true =>
     have hyk : kJ0 Tryz.prog G0 b [.str (l.getD k [])] (K k) (.bool false) (K (k + 1)) := hzz rfl;generalize l.getD k [] = x at *;repeat' (first|refine nv ?_|(with_reducible first|refine gG ?_ ?_|refine ⟨fun h => ?_, fun h => ?_⟩ <;> try omega|refine andG ?_)|refine cl hyk ?_|simp (disch := try exact discB) only [push_cast, simprocAttr, b0, b1, b5, b6, b7, e1, hL])
  ·obtain rfl : k = l.length := by omega
   obtain rfl : l.length = q := by
    cases stop with
    | false => exact (hs2 rfl).symm
    | true => have := hs1 rfl; omega
   cases stop with
   | true => have := hs1 rfl; omega
   | false =>
    repeat' (first|refine nv ?_|(with_reducible first|refine gG ?_ ?_|refine ⟨fun h => ?_, fun h => ?_⟩ <;> try omega|refine andG ?_)|refine cl hyk ?_|simp (disch := try exact discB) only [push_cast, simprocAttr, b0, b1, b5, b6, b7])
theorem wy0 (l : List Bs) (q : Nat) (h : q < l.length) : l.take (q + 1) = l.take q ++ [l.getD q []] := by
 rw [n'M h, l'b, l'e h]; rfl
theorem xak9 (H : List Blk) (l : List Bs) : ((strs l).map fun e => e.map (wg0 H 0)) = strs l := by simp [strs, wg0]
theorem wbw9 (H : List Blk) (l : List Bs) : ((strs l).all fun e => e.all (okC H 0)) = true := by simp [strs, okC, AV.closed, AV.ids]
theorem xbj9 (z : Nat) (l : List Bs) (c : Option Nat) (hz : l = [] ∨ z = 1) (hl : l.length ≤ 1000000) : qb0 Tryz.prog G0 115 [.sl 0 [] (some 0), .fn 88 [.iptr [.sl z (strs l) c] 0]] [] (.own 1 l.length l.length none) [.row 1 25 [[.own 1 l.length l.length none]], .row 1 9 (strs l)] := by
 have hit := vcT9 z l c hz hl;have hids : ∀ p, idsE p (strs l) = true := fun p => xa0 _ _;have hlen := za0 l;generalize hcap : ([.iptr [.sl z (strs l) c] 0] : List AV) = cap at *;have hidc : idsL xU0 cap = true := by rw [← hcap]; simp [idsL, AV.ids, hids]
 have hidc2 : ∀ p, idsL p cap = true := fun p => by rw [← hcap]; simp [idsL, AV.ids, hids]
 clear hcap;refine zp0 13 [.tmp 4] Tryz.func115 rfl rfl rfl (by simp) ?_;intro s ⟨a0, a1, hz⟩;simp only [l'g, Nat.reduceAdd] at a1;clear hz;repeat' (first|(first|(with_reducible refine vb0 (p := [0, 1, 0, 1]) ?_)|refine nav ?_|(refine g0_ ?_; first|refine goD ?_))|(with_reducible first|refine gG ?_ ?_|refine ⟨fun h => ?_, fun h => ?_⟩ <;> try omega|refine andG ?_)|simp (disch := try exact discB) only [push_cast, simprocAttr, a0, a1])
 refine Halt.mk ?_;refine kq0 (by first|exact va0|fail) (zj0 (b := 0) (i := 0) (j := 0) (sz := 1) (ty := 9) rfl rfl rfl) ?_;refine vbd9 (m := l.length) (k := 2) .normal (fun q => [.row 1 25 [[.own 1 (min q l.length) (min q l.length) none]], .row 1 9 (strs (l.take q))]) rfl (by first|exact va0|fail) ?_ ?_ (by kernel_rfl) hit rfl rfl (fun _ => rfl) (fun q => by simp [Blk.below, idsE, idsL, AV.ids, xa0]) (fun j => ⟨by simp [idsL, AV.ids], rfl⟩) (fun h => by cases h) (fun _ => rfl) rfl (fun q hq s1 hs1 => ?_) (fun h => by cases h) ?_
 ·simp (disch := try exact discB) only [push_cast, simprocAttr, a0, a1]
 ·simp (disch := try exact discB) only [push_cast, simprocAttr, a0, a1]
 ·have r2 := (zbP9 hs1 2 rfl).trans (show _ = AV.ptr 0 0 0 1 from rfl);have r7 : s1 7 = .str (l.getD q []) := (hs1 7).trans rfl;clear hs1;have hsn := wy0 l q hq;have hm0 : min q l.length = q := by omega
  have hm1 : min (q + 1) l.length = q + 1 := by omega
  have hlq : (strs (l.take q)).length = q := by rw [za0, l'x]; omega
  have hsn2 : strs (l.take (q + 1)) = strs (l.take q) ++ [[.str (l.getD q [])]] := by rw [kL0, hsn]
  rw [hsn2, hm0, hm1];generalize l.getD q [] = x at *;generalize strs (l.take q) = L at *;repeat' (first|refine nv ?_|(with_reducible first|refine gG ?_ ?_|refine ⟨fun h => ?_, fun h => ?_⟩ <;> try omega|refine andG ?_)|simp (disch := try exact discB) only [push_cast, simprocAttr, r2, r7, hlq])
  refine vcd9 ⟨by first|exact va0|fail, at_go ?_⟩;repeat' (first|refine nv ?_|(with_reducible first|refine gG ?_ ?_|refine ⟨fun h => ?_, fun h => ?_⟩ <;> try omega|refine andG ?_)|simp (disch := try exact discB) only [push_cast, simprocAttr, r2, r7, hlq])
  omega
 ·rw [if_neg (by simp [vf0]), l'E, Nat.min_self];repeat' (first|refine nv ?_|(with_reducible first|refine gG ?_ ?_|refine ⟨fun h => ?_, fun h => ?_⟩ <;> try omega|refine andG ?_)|simp (disch := try exact discB) only [push_cast, simprocAttr, Nat.add_zero])
theorem qct9 (z : Nat) (l : List Bs) (c : Option Nat) (hz : l = [] ∨ z = 1) (hl : l.length ≤ 1000000) (H : List Blk) : qb0 Tryz.prog G0 86 [.fn 88 [.iptr [.sl z (strs l) c] 0]] H (.own H.length l.length l.length none) (H ++ [.row 1 9 (strs l)]) := by
 have h0 := xbj9 z l c hz hl;have hids : ∀ p, idsE p (strs l) = true := fun p => xa0 _ _;have hlen := za0 l;have hid : idsL xU0 [AV.fn 88 [.iptr [.sl z (strs l) c] 0]] = true := by simp [idsL, AV.ids, hids]
 have h1 := fun H => qcj9 (r' := .own H.length l.length l.length none) (es' := strs l) 0 1 H h0 (by simp [idsL, AV.ids, hids, idsE]) rfl (wbw9 _ _) (xak9 _ _) (by simp [waK9, xbs9]) (by simp [renR, renA]);have h2 : qb0 Tryz.prog G0 86 [.fn 88 [.iptr [.sl z (strs l) c] 0]] [] (.own 0 l.length l.length none) [.row 1 9 (strs l)] := by
  generalize strs l = L at *;generalize hcap : ([.iptr [.sl z L c] 0] : List AV) = cap at *;have h1 := h1 [];refine zp0 5 [.tmp 2] Tryz.func86 rfl rfl rfl (by simp) ?_;intro s ⟨a0, hz⟩;clear hz;repeat' (first|refine nv ?_|(with_reducible first|refine gG ?_ ?_|refine ⟨fun h => ?_, fun h => ?_⟩ <;> try omega|refine andG ?_)|refine cl h1 ?_|simp (disch := try exact discB) only [push_cast, simprocAttr, a0])
 have h3 := qcj9 (r' := .own H.length l.length l.length none) (es' := strs l) 0 0 H h2 hid rfl (wbw9 _ _) (xak9 _ _) (by simp [waK9, xbs9]) (by simp [renR, renA]);exact h3
theorem zdM9 (b : Nat) (l : List Bs) (c : Option Nat) (H : List Blk) (hb : H[b]? = some (.row 1 9 (strs l))) (h0 : 0 < l.length) (hl : l.length ≤ 1000000) : qb0 Tryz.prog G0 87 [.own b l.length l.length c] H (.tup []) (H.set b (.row 1 9 (strs (srtB l)))) := by
 refine waL9 hb (by decide) h0 (wO0 l) (fun _ _ => .tuple #[]) (fun g cap w h1 h2 h3 => ?_) (fun E g k cap _ _ _ _ _ _ => ?_)
 ·exact (Tryz.slices_Sort_string g 0 cap l w h1 h2 (by omega)).mono fun e w' ⟨e1, n, os, e2⟩ => ⟨e1, n, os, e2⟩
 ·simp [Rel, RelL]
def cmpK (l : List Bs) : Nat := (Lib.compact (srtB l)).length
def cmpL (l : List Bs) : List Bs := Lib.compact (srtB l) ++ List.replicate ((srtB l).length - (Lib.compact (srtB l)).length) []
theorem zct9 (b : Nat) (l : List Bs) (c : Option Nat) (H : List Blk) (hb : H[b]? = some (.row 1 9 (strs (srtB l)))) (h0 : 0 < l.length) (hl : l.length ≤ 1000000) : qb0 Tryz.prog G0 45 [.own b l.length l.length c] H (.own b (cmpK l) l.length c) (H.set b (.row 1 9 (strs (cmpL l)))) := by
 have hlen := wO0 l;have hle := zaM9 l;rw [← hlen];refine waL9 hb (by decide) (by omega) ?_ (fun g cap => .slice (some ⟨g, 0, none⟩) (cmpK l) cap) (fun g cap w h1 h2 h3 => ?_) (fun E g k cap e1 e2 e3 e4 e5 e6 => ?_)
 ·simp only [cmpL, l'i, l'V]; omega
 ·refine (Tryz.slices_Compact_string g 0 cap (srtB l) w h1 (by omega) h3).mono fun e w' ⟨e1, n, e2⟩ => ⟨e1, n, #[], ?_⟩;rw [e2]; simp [Go.Sort.grow, cmpL]; rfl
 ·simp only [Rel];refine ⟨1, _, e1, l'd _, fun _ => ⟨by simp only [cmpK]; omega, .inr ⟨g, k, cap, e2, rfl, by simp only [cmpK]; omega, e4, e5, e6⟩⟩⟩
theorem kcT9 (z : Nat) (l : List Bs) (c : Option Nat) (hz : l = [] ∨ z = 1) (h0 : 0 < l.length) (hl : l.length ≤ 1000000) (H : List Blk) : qb0 Tryz.prog G0 43 [.fn 88 [.iptr [.sl z (strs l) c] 0]] H (.own H.length l.length l.length none) (H ++ [.row 1 9 (strs (srtB l))]) := by
 have h1 := qct9 z l c hz hl [];have hids : ∀ p, idsE p (strs l) = true := fun p => xa0 _ _;have hlen := za0 l;have hlen2 := wO0 l;have h2 := zdM9 0 l none [.row 1 9 (strs l)] rfl h0 hl;have hid : idsL xU0 [AV.fn 88 [.iptr [.sl z (strs l) c] 0]] = true := by simp [idsL, AV.ids, hids]
 have hS : qb0 Tryz.prog G0 43 [.fn 88 [.iptr [.sl z (strs l) c] 0]] [] (.own 0 l.length l.length none) [.row 1 9 (strs (srtB l))] := by
  generalize strs l = L at *;generalize hcap : ([.iptr [.sl z L c] 0] : List AV) = cap at *;refine zp0 9 [.tmp 2] Tryz.func43 rfl rfl rfl (by simp) ?_;intro s ⟨a0, hz⟩;clear hz;repeat' (first|refine nv ?_|(with_reducible first|refine gG ?_ ?_|refine ⟨fun h => ?_, fun h => ?_⟩ <;> try omega|refine andG ?_)|refine cl h1 ?_|refine cl h2 ?_|simp (disch := try exact discB) only [push_cast, simprocAttr, a0])
 have h3 := qcj9 (r' := .own H.length l.length l.length none) (es' := strs (srtB l)) 0 0 H hS hid rfl (wbw9 _ _) (xak9 _ _) (by simp [waK9, xbs9]) (by simp [renR, renA]);exact h3
structure GS where
 nm : Bs
 i : Int
 o : Int
 zr : Nat
 rows : List Row
 cr : Option Nat
 zi : Nat
 ins : List Bs
 ci : Option Nat
 zo : Nat
 outs : List Bs
 co : Option Nat
 zs : Nat
 sts : List Bs
 cs : Option Nat
def GS.A (x : GS) : List AV := [.str x.nm, .int .i64 x.i, .int .i64 x.o, .sl x.zr (kb0 x.rows) x.cr, .sl x.zi (strs x.ins) x.ci, .sl x.zo (strs x.outs) x.co, .sl x.zs (strs x.sts) x.cs]
def GS.lists (x : GS) : List (List Bs) := [[x.nm], x.ins, x.outs, x.sts]
structure GS.Ok (x : GS) : Prop where
 r : x.rows = [] ∨ x.zr = 1
 i : x.ins = [] ∨ x.zi = 1
 o : x.outs = [] ∨ x.zo = 1
 s : x.sts = [] ∨ x.zs = 1
 lr : x.rows.length ≤ 1000000
 lw : ∀ j, j < x.rows.length → (x.rows.getD j ([], none)).1.length ≤ 1000000
 li : x.ins.length ≤ 1000000
 lo : x.outs.length ≤ 1000000
 ls : x.sts.length ≤ 1000000
 nm : ∀ l ∈ x.lists, ∀ s ∈ l, s.length ≤ 60000
def GS.cnt (x : GS) : Bool := decide ((x.ins.length : Int) ≠ x.i) || decide ((x.outs.length : Int) ≠ x.o) || decide (x.sts.length ≠ x.rows.length)
def chkS (x : GS) : Int := if zk0 x.i x.o x.rows ≠ 0 then zk0 x.i x.o x.rows else if x.cnt = true then 16 else if (x.lists.any fun l => l.any fun s => !nmB s) = true then 10 else if (x.lists.any fun l => !decide l.Nodup) = true then 8 else 0
theorem vr0 (p : Nat → Bool) (x : GS) : idsL p x.A = true := by simp [GS.A, idsL, AV.ids]
def lsA (x : GS) : List (List AV) := [[.sl 1 (strs [x.nm]) (some 1)], [.sl 1 (strs x.ins) x.ci], [.sl 1 (strs x.outs) x.co], [.sl 1 (strs x.sts) x.cs]]
def lsC (x : GS) (k : Nat) : Option Nat := match k with|0 => some 1|1 => x.ci|2 => x.co|_ => x.cs
theorem xct9 (x : GS) (k : Nat) (h : k < 4) : (lsA x).getD k [] = [.sl 1 (strs (x.lists.getD k [])) (lsC x k)] := by
 have : k = 0 ∨ k = 1 ∨ k = 2 ∨ k = 3 := by omega
 rcases this with rfl|rfl|rfl|rfl <;> rfl
theorem kac9 {p : List Bs → Bool} {x : GS} {k : Nat} (h : k < 4) (hp : p (x.lists.getD k []) = true) : x.lists.any p = true := by
 rw [l'H];have hk : k < x.lists.length := h;exact ⟨_, by rw [l'b, l'e hk]; exact n'z hk, hp⟩
theorem kar9 {p : List Bs → Bool} {x : GS} (h : ∀ k, k < 4 → p (x.lists.getD k []) = false) : x.lists.any p = false := by
 have h0 := h 0 (by omega); have h1 := h 1 (by omega); have h2 := h 2 (by omega); have h3 := h 3 (by omega)
 simp only [GS.lists, List.getD_cons_zero, List.getD_cons_succ] at h0 h1 h2 h3;simp [GS.lists, h0, h1, h2, h3]
theorem kE0 {i o : Int} {l : List Row} (h : zk0 i o l = 0) : 1 ≤ i ∧ 1 ≤ o ∧ 1 ≤ l.length ∧ i ≤ 16 ∧ o ≤ 16 ∧ l.length ≤ 64 := by
 unfold zk0 at h;split at h
 ·omega
 split at h
 ·omega
 omega
theorem wbj9 {x : GS} {k : Nat} (h : k < 4) : x.lists.getD k [] ∈ x.lists := by
 have hk : k < x.lists.length := h;rw [l'b, l'e hk]; exact n'z hk
theorem wct9 {x : GS} (hx : x.Ok) (h1 : 0 < x.ins.length) (h2 : 0 < x.outs.length) (h3 : 0 < x.sts.length) {k : Nat} (h : k < 4) : 0 < (x.lists.getD k []).length ∧ (x.lists.getD k []).length ≤ 1000000 := by
 have := hx.li; have := hx.lo; have := hx.ls
 have : k = 0 ∨ k = 1 ∨ k = 2 ∨ k = 3 := by omega
 rcases this with rfl|rfl|rfl|rfl
 ·exact ⟨Nat.one_pos, by show 1 ≤ 1000000; omega⟩
 ·exact ⟨h1, hx.li⟩
 ·exact ⟨h2, hx.lo⟩
 ·exact ⟨h3, hx.ls⟩
theorem vV0 (x : GS) (hx : x.Ok) : PC Tryz.prog G0 12 [.agg x.A] (.int .i64 (chkS x)) := by
 have hm := wbu9 x.i x.o x.rows x.zr x.cr hx.r hx.lr hx.lw;have hid := fun p => vr0 p x;have hlA := xct9 x;unfold GS.A at *;refine wb0 0 77 [.tmp 2] Tryz.func12 rfl rfl rfl (by simp) ?_;intro s ⟨a0, hz⟩;clear hz;repeat' (first|(first|(with_reducible refine vb0 (p := [0, 1, 0, 1, 1, 1, 1]) ?_)|refine nav ?_|(refine g0_ ?_; first|refine goD ?_))|(with_reducible first|refine gG ?_ ?_|refine ⟨fun h => ?_, fun h => ?_⟩ <;> try omega|refine andG ?_)|refine cp hm ?_|simp (disch := try exact discB) only [push_cast, simprocAttr, a0])
 ·congr 1
  rw [chkS, if_pos h]
 ·rename_i h0;congr 1
  rw [chkS, if_neg (by rw [h0]; simp), if_pos];unfold GS.cnt;simp only [l's, decide_eq_true_eq, ne_eq];exact h
 rename_i h0;have hcnt : x.cnt = false := by
  unfold GS.cnt;simp only [n't, decide_eq_false_iff_not, ne_eq, n'D];exact h
 have hp := kE0 h0;have hl1 : 0 < x.ins.length := by omega
 have hl2 : 0 < x.outs.length := by omega
 have hl3 : 0 < x.sts.length := by omega
 have hz1 : x.zi = 1 := hx.i.resolve_left (by intro e; rw [e] at hl1; simp at hl1);have hz2 : x.zo = 1 := hx.o.resolve_left (by intro e; rw [e] at hl2; simp at hl2);have hz3 : x.zs = 1 := hx.s.resolve_left (by intro e; rw [e] at hl3; simp at hl3);rw [hz1, hz2, hz3];have hll := fun k (h : k < 4) => wct9 hx hl1 hl2 hl3 h;have hnm : ∀ k, k < 4 → ∀ s ∈ x.lists.getD k [], s.length ≤ 1000000 := fun k h s hs => n'a (hx.nm _ (wbj9 h) s hs) (by omega);have hLA : lsA x = [[.sl 1 (strs [x.nm]) (some 1)], [.sl 1 (strs x.ins) x.ci], [.sl 1 (strs x.outs) x.co], [.sl 1 (strs x.sts) x.cs]] := rfl;have hln : (lsA x).length = 4 := rfl;have hidl : ∀ p, idsE p (lsA x) = true := fun p => by simp [lsA, idsE, idsL, AV.ids]
 have hs1 : strs [x.nm] = [[.str x.nm]] := rfl;rw [hs1] at hLA;rw [hLA] at hlA hln hidl;generalize [[AV.sl 1 [[AV.str x.nm]] (some 1)], [AV.sl 1 (strs x.ins) x.ci], [AV.sl 1 (strs x.outs) x.co], [AV.sl 1 (strs x.sts) x.cs]] = LS at *;rw [hz1, hz2, hz3] at hid;generalize hB0 : [AV.str x.nm, AV.int .i64 x.i, AV.int .i64 x.o, AV.sl x.zr (kb0 x.rows) x.cr, AV.sl 1 (strs x.ins) x.ci, AV.sl 1 (strs x.outs) x.co, AV.sl 1 (strs x.sts) x.cs] = B0 at *;refine Halt.mk ?_;refine go_loop rfl (fun mz s' H' => ∃ k : Nat, k ≤ 4 ∧ mz = 4 - k ∧ H' = [.row 7 27 [B0]] ∧ s' 1 = .ptr 0 0 0 1 ∧ s' 4 = .sl 1 LS (some 4) ∧ s' 52 = .sl 1 LS (some 4) ∧ s' 53 = .int .i64 4 ∧ s' 54 = .int .i64 k ∧ ∀ j, j < k → ((x.lists.getD j []).any fun s => !nmB s) = false) (m := 4) (by first|exact va0|fail) (Weak.refl _ _) ⟨0, by omega, by omega, rfl, ?_⟩ ?_
 ·simp (disch := try exact discB) only [push_cast, simprocAttr, Nat.add_zero];all_goals exact fun j hj => by omega
 ·rintro mz s' H' ⟨k, hk, rfl, rfl, b1, b4, b52, b53, b54, ik⟩;rcases l'h k 4 with hlt|hge
  ·have e1 := hlA k hlt;have hc := zS0 (fun s => !nmB s) 39 [] 1 (x.lists.getD k []) (lsC x k) [.row 7 27 [B0]] (.inr rfl) (by kernel_rfl) (fun s hs => kh0 (vej9 s (hnm k hlt s hs)) (by simp [idsL, AV.ids]) _) (hll k hlt).2;have h10 := fun h => kac9 (x := x) (p := fun l => l.any fun s => !nmB s) hlt h;have hsn := fun (hb : ((x.lists.getD k []).any fun s => !nmB s) = false) (j : Nat) (hj : j < k + 1) => (by
    rcases l'h j k with q|q
    ·exact ik j q
    ·rw [show j = k by omega]; exact hb : ((x.lists.getD j []).any fun s => !nmB s) = false)
   generalize strs (x.lists.getD k []) = L at *;generalize hb : ((x.lists.getD k []).any fun s => !nmB s) = b at *;cases b with
   | true =>
    repeat' (first|refine nv ?_|(with_reducible first|refine gG ?_ ?_|refine ⟨fun h => ?_, fun h => ?_⟩ <;> try omega|refine andG ?_)|refine cl hc ?_|simp (disch := try exact discB) only [push_cast, simprocAttr, b1, b4, b52, b53, b54, e1, hln])
    rw [chkS, if_neg (by rw [h0]; simp), if_neg (by rw [hcnt]; simp), if_pos (h10 rfl)]
   | false =>
    repeat' (first|refine nv ?_|(with_reducible first|refine gG ?_ ?_|refine ⟨fun h => ?_, fun h => ?_⟩ <;> try omega|refine andG ?_)|refine cl hc ?_|simp (disch := try exact discB) only [push_cast, simprocAttr, b1, b4, b52, b53, b54, e1, hln])
    refine wa0 (4 - (k + 1)) (by omega) (by first|exact va0|fail) ⟨k + 1, by omega, rfl, rfl, ?_⟩;simp (disch := try exact discB) only [push_cast, simprocAttr, b1, b4, b52, b53, b54, e1, hln];exact hsn rfl
  ·obtain rfl : k = 4 := by omega
   have hno := kar9 (p := fun l => l.any fun s => !nmB s) ik;repeat' (first|refine nv ?_|(with_reducible first|refine gG ?_ ?_|refine ⟨fun h => ?_, fun h => ?_⟩ <;> try omega|refine andG ?_)|simp (disch := try exact discB) only [push_cast, simprocAttr, b1, b4, b52, b53, b54, hln])
   refine go_loop rfl (fun mz s' H' => ∃ m : Nat, m ≤ 4 ∧ mz = 4 - m ∧ H' = [.row 7 27 [B0]] ∧ s' 1 = .ptr 0 0 0 1 ∧ s' 4 = .sl 1 LS (some 4) ∧ s' 61 = .sl 1 LS (some 4) ∧ s' 62 = .int .i64 4 ∧ s' 63 = .int .i64 m ∧ ∀ j, j < m → (x.lists.getD j []).Nodup) (m := 4) (by first|exact va0|fail) (Weak.refl _ _) ⟨0, by omega, by omega, rfl, ?_⟩ ?_
   ·simp (disch := try exact discB) only [push_cast, simprocAttr, b1, b4, b52, b53, b54, hln];all_goals exact fun j hj => by omega
   ·clear b1 b4;rintro mz s' H' ⟨m, hm, rfl, rfl, b1, b4, b61, b62, b63, im⟩;rcases l'h m 4 with hlt|hge
    ·have e1 := hlA m hlt;obtain ⟨hp0, hp1⟩ := hll m hlt;have hcv := wcT9 1 (x.lists.getD m []) (lsC x m);have hcs := kcT9 1 (x.lists.getD m []) (lsC x m) (.inr rfl) hp0 hp1 [.row 7 27 [B0]];have hcc := zct9 1 (x.lists.getD m []) none ([.row 7 27 [B0]] ++ [.row 1 9 (strs (srtB (x.lists.getD m [])))]) rfl hp0 hp1;have hlt2 := zbT9 (x.lists.getD m []);have h8 := fun h => kac9 (x := x) (p := fun l => !decide l.Nodup) hlt h;have hsn := fun (hb : (x.lists.getD m []).Nodup) (j : Nat) (hj : j < m + 1) => (by
      rcases l'h j m with q|q
      ·exact im j q
      ·rw [show j = m by omega]; exact hb : (x.lists.getD j []).Nodup)
     have hSl := za0 (x.lists.getD m []);have hiS : ∀ p, idsE p (strs (x.lists.getD m [])) = true := fun p => xa0 _ _;have hL2 : (strs (cmpL (x.lists.getD m []))).length = (x.lists.getD m []).length := by
      have h1 := zaM9 (x.lists.getD m []);have h2 := wO0 (x.lists.getD m []);rw [za0]; simp only [cmpL, l'i, l'V]; omega
     rw [show (Lib.compact (srtB (x.lists.getD m []))).length = cmpK (x.lists.getD m []) from rfl] at hlt2;generalize strs (srtB (x.lists.getD m [])) = L1 at *;generalize strs (cmpL (x.lists.getD m [])) = L2 at *;generalize strs (x.lists.getD m []) = L at *;generalize x.lists.getD m [] = l at *;repeat' (first|refine nv ?_|(with_reducible first|refine gG ?_ ?_|refine ⟨fun h => ?_, fun h => ?_⟩ <;> try omega|refine andG ?_)|refine cp hcv ?_ (hi := by (simp [idsL, idsE, AV.ids, hiS]))|refine cl hcs ?_|refine cl hcc ?_|simp (disch := try exact discB) only [push_cast, simprocAttr, b1, b4, b61, b62, b63, e1, hln, hSl, hL2])
     ·rename_i h;rw [chkS, if_neg (by rw [h0]; simp), if_neg (by rw [hcnt]; simp), if_neg (by rw [hno]; simp), if_pos (h8 (by rw [decide_eq_false (hlt2.1 h)]; rfl))]
     ·rename_i h;have hnd : l.Nodup := n'D.1 fun q => by have := hlt2.2 q; omega
      refine qe0 (4 - (m + 1)) 1 (by omega) (by first|exact va0|fail) (by omega) (by simp) (by simp [Blk.below, idsE, idsL, AV.ids, hid]) ⟨m + 1, by omega, rfl, rfl, ?_⟩;simp (disch := try exact discB) only [push_cast, simprocAttr, b1, b4, b61, b62, b63, e1, hln, hSl, hL2];refine ⟨rfl, ?_, ?_, rfl, rfl, hsn hnd⟩ <;> simp [xi0, AV.ids, hidl]
    ·obtain rfl : m = 4 := by omega
     have hno2 := kar9 (p := fun l => !decide l.Nodup) (fun j hj => by rw [decide_eq_true (im j hj)]; rfl);repeat' (first|refine nv ?_|(with_reducible first|refine gG ?_ ?_|refine ⟨fun h => ?_, fun h => ?_⟩ <;> try omega|refine andG ?_)|simp (disch := try exact discB) only [push_cast, simprocAttr, b1, b4, b61, b62, b63, hln])
     rw [chkS, if_neg (by rw [h0]; simp), if_neg (by rw [hcnt]; simp), if_neg (by rw [hno]; simp), if_neg (by rw [hno2]; simp)]
end Go.Proofs
