import Derived.Test.YtlpjemobbjijdaaGreatDoorS51
import Derived.Test.YtlpjemobbjijdaaGreatDoorS30
import Derived.Test.YtlpjemobbjijdaaGreatDoorS38
namespace Go.Proofs
open Go Go.V
set_option linter.unusedVariables false
set_option linter.unusedSimpArgs false
set_option maxHeartbeats 0
set_option maxRecDepth 100000
def cpR (R : List Bs) : Option Nat := if R = [] then some 0 else none
def zpR (R : List Bs) : Nat := if R = [] then 0 else 1
theorem qaf9 {R : List Bs} (h : 0 < R.length) : zpR R = 1 := if_neg fun e => by rw [e] at h; exact absurd h (Nat.lt_irrefl _)
theorem zaf9 {R : List Bs} (h : 0 < R.length) : cpR R = none := if_neg fun e => by rw [e] at h; exact absurd h (Nat.lt_irrefl _)
theorem gapA {q : Nat} (h : q < 5) : ([[.str []], [.str [10, 10]], [.str [32, 9]], [.str [35, 32, 97, 32, 114, 101, 109, 97, 114, 107, 59, 32, 109, 97, 99, 104, 105, 110, 101, 32, 101, 110, 100, 10]], [.str [13, 10, 32, 32]]] : List (List AV)).getD q [] = [.str (gapsB.getD q [])] := by
 have : q = 0 ∨ q = 1 ∨ q = 2 ∨ q = 3 ∨ q = 4 := by omega
 rcases this with rfl|rfl|rfl|rfl|rfl <;> rfl
theorem vav9 (a : Bs) (l : List Bs) : strs (a :: l) = [.str a] :: strs l := rfl
theorem wbc9 (l : List Bs) (k : Nat) : (strs l).drop k = strs (l.drop k) := by simp [strs]
theorem zaO9 (a b : List Bs) : strs a ++ strs b = strs (a ++ b) := by simp [strs]
theorem kcI9 (s : Bs) (k : Nat) (h : k < s.length) : c10 (s.take (k + 1)) = c10 (s.take k) + (if ((s.getD k 0).toNat : Int) = 10 then 1 else 0) := by
 have h10 : s.getD k 0 = 10 ↔ ((s.getD k 0).toNat : Int) = 10 := by rw [← UInt8.toNat_inj]; show (s.getD k 0).toNat = 10 ↔ _; omega
 rw [qce9 s 0 k h, wA0, zK0, show c10 [] = 0 from rfl, Nat.add_zero]
 by_cases q : s.getD k 0 = 10
 ·rw [if_pos q, if_pos (h10.1 q)]
 ·rw [if_neg q, if_neg fun e => q (h10.2 e)]
theorem xdy9 (s : Bs) : c10 s ≤ s.length := List.length_filter_le _ _
theorem law6 (x : ND) (z : Nat) (c : Option Nat) (o : List Nat) (zo : Nat) (co : Option Nat) (gp : Nat) (hx : x.m.Ok) (hn : x.nm < 256) (hz : x.m.es = [] ∨ z = 1) (ho : ∀ y ∈ o, y < 256) (hol : o.length ≤ 9223372036854775807) (hzo : o = [] ∨ zo = 1) (hg : gp < 256) : PC Tryz.prog G0 6 [.agg (ndC x z c), .sl zo (u8s o) co, .int .u8 gp] (.bool true) := by
 have hie : ∀ p, idsL p (ndC x z c) = true := fun p => by simp [ndC, mdC, idsL, AV.ids]
 have hv := x.v
 have hok := x.ok
 have h21 := of21 x z c hx hn hz
 have h25 := qdh9 x.G hok hv
 have h26 := zdw9 x.G hok hv
 have hlv := xdg9
 have hrl : x.G.rows.length ≤ 6 := by show (x.m.rows x.m.n).length ≤ 6; rw [MD.rows_len]; have := x.m.bn; omega
 have hq5 : gp % 5 < 5 := Nat.mod_lt _ (by decide)
 have hgA := gapA hq5
 have hgm : gapsB.getD (gp % 5) [] ∈ gapsB := ve0 [] hq5
 have h5 : ((gp : Int).tmod 5) = ((gp % 5 : Nat) : Int) := rfl
 generalize gp % 5 = gq at *
 generalize gapsB.getD gq [] = g at *
 have hLle := vcl9 hv
 have hLn := wae9 hv x.G.rows.length (Nat.le_refl _)
 have hLQ := wbz9 x.G
 have hgl := kcH9 hgm
 have hhd := kcF9 hv
 have hord := fun T => zbp9 hv hgm o T
 generalize linesL x.G x.G.rows.length = L at *
 have hL96 : L.length ≤ 96 := by omega
 have hTx : ∀ k, (txO o g (g ++ wm0 x.G) L k).length ≤ 20000 := fun k => by
  have := zdy9 o (T := g ++ wm0 x.G) L hLle hgl k
  rw [List.length_append] at this
  have h2 : L.length * (104 + 24) ≤ 96 * 128 := Nat.mul_le_mul_right _ (by omega)
  omega
 obtain ⟨T, hT⟩ : ∃ T, T = txO o g (g ++ wm0 x.G) L L.length ++ [101, 110, 100] ++ g ++ [59] ++ g := ⟨_, rfl⟩
 have hTl : T.length ≤ 65536 := by
  have := hTx L.length
  rw [hT]
  simp only [List.length_append, List.length_cons, List.length_nil]
  omega
 obtain ⟨ts, hof, hp⟩ := hord T (by rw [hT]; simp) hTl
 have hgd := qbL9 (by have := (xaN9 T).2; rw [hof] at this; exact this) hp (kck9 hp)
 have h22 := qR0 T (by omega) (by have := (xaN9 T).1; omega)
 unfold qY0 at h22
 rw [hof] at h22
 simp only at h22
 rw [if_pos trivial, hp] at h22
 simp only at h22
 rw [vcI9] at h22
 have hyo := qdy9 hgd (some x.G.ins.length) (some x.G.ins.length) (some x.G.outs.length) (some x.G.sts.length) (some x.G.sts.length)
 have hyv := kdx9 hgd (some x.G.ins.length) (some x.G.ins.length) (some x.G.outs.length) (some x.G.sts.length) (some x.G.sts.length)
 have hre : qby9 x.G (gsP ⟨x.G.nm, x.G.ins, x.G.outs, x.G.sts, edgesOf x.G.rows⟩ (some x.G.ins.length) (some x.G.ins.length) (some x.G.outs.length) (some x.G.sts.length) (some x.G.sts.length)) = true := by
  unfold qby9
  rw [zav9, decide_eq_true (show x.G.lists = (gsP ⟨x.G.nm, x.G.ins, x.G.outs, x.G.sts, edgesOf x.G.rows⟩ (some x.G.ins.length) (some x.G.ins.length) (some x.G.outs.length) (some x.G.sts.length) (some x.G.sts.length)).lists from rfl), decide_eq_true ⟨hv.ci.symm, hv.co.symm, rfl⟩]; rfl
 have h23 := qck9 _ _ hok hyo
 rw [hre] at h23
 have htw : ∀ w ws, L = w :: ws → PC Tryz.prog G0 22 [.str (wm0 x.G ++ w ++ w)] (.tup [zSpecA, .int .i64 6, .int .i64 1, .int .i64 8]) := fun w ws hL => by
  rw [hL] at hLQ
  cases hQ : allQ' x.G with
  | nil => rw [hQ] at hLQ; cases hLQ
  | cons q E =>
   rw [hQ, List.map_cons] at hLQ
   injection hLQ with hw _
   have hqo := qbp9 hv q (by rw [hQ]; exact List.mem_cons_self)
   have hwl := hLle w (by rw [hL]; exact List.mem_cons_self)
   have hl2 : (wm0 x.G ++ w ++ w).length ≤ 65536 := by simp only [List.length_append]; omega
   obtain ⟨t2, p1, p2, p3⟩ := xbL9 hv hqo (wm0 x.G ++ w ++ w) (by rw [hw]) hl2
   have k22 := qR0 (wm0 x.G ++ w ++ w) (by omega) (by have := (xaN9 (wm0 x.G ++ w ++ w)).1; omega)
   unfold qY0 at k22
   rw [p1] at k22
   simp only at k22
   rw [if_pos trivial, p2] at k22
   simp only at k22
   rw [p3] at k22
   exact k22
 have hid := fun p => zE0 p x.G
 have hid2 := fun p => zE0 p (gsP ⟨x.G.nm, x.G.ins, x.G.outs, x.G.sts, edgesOf x.G.rows⟩ (some x.G.ins.length) (some x.G.ins.length) (some x.G.outs.length) (some x.G.sts.length) (some x.G.sts.length))
 have hids := fun p => xa0 p L
 have hiu := fun p => vcG9 p o
 generalize gsP ⟨x.G.nm, x.G.ins, x.G.outs, x.G.sts, edgesOf x.G.rows⟩ (some x.G.ins.length) (some x.G.ins.length) (some x.G.outs.length) (some x.G.sts.length) (some x.G.sts.length) = y at *
 have hLs := wa0 L
 have hou := vbK9 o
 generalize wm0 x.G = HT at *
 have hTXl : (g ++ HT).length ≤ 20000 := by have := hTx 0; rw [xbz9] at this; exact this
 generalize hTX : g ++ HT = TX at *
 unfold GS.A at *
 generalize x.G = G at *
 clear hre hyv hyo hgd hp hof hord hLQ hv hok
 unfold ndC mdC at *
 simp only [List.cons_append, List.nil_append] at *
 refine xd0 0 155 [.tmp 6] Tryz.func6 rfl rfl rfl (by simp) ?_
 intro s ⟨a0, a1, a2, hz⟩
 simp only [Nat.zero_add, Nat.reduceAdd] at a1 a2
 clear hz
 repeat' (first|(first|refine nav ?_|(refine g0_ ?_; first|refine dN (p := [1, 1, 1, 0, 0, 1, 0, 0, 1, 0, 1, 1, 1, 1, 1, 1, 1, 1]) [(86, 83)] [(82, some 78), (87, some 82)] [] ?_|refine goD ?_))|(with_reducible first|refine gG ?_ ?_|(refine And.intro (fun h => ?_) (fun h => ?_)) <;> try omega|refine andG ?_)|refine cp h21 ?_ (hi := by (simp [idsL, idsE, AV.ids, hie, hid, hid2, hids, hiu]))|refine cp h25 ?_ (hi := by (simp [idsL, idsE, AV.ids, hie, hid, hid2, hids, hiu]))|refine cp h26 ?_ (hi := by (simp [idsL, idsE, AV.ids, hie, hid, hid2, hids, hiu]))|simp (disch := try exact discB) only [push_cast, simprocAttr, a0, a1, a2, h5, hgA, hTX])
 refine go_loop rfl (fun mz s' H' => ∃ i : Nat, i ≤ TX.length ∧ mz = TX.length - i ∧ H' = [.row 6 46 [[.int .u8 x.m.st, .int .u8 x.m.inp, .int .u8 x.m.ou, .bool x.m.pa, .sl z (u16s x.m.es) c, .int .u8 x.nm]], .row 7 27 [[.str G.nm, .int .i64 G.i, .int .i64 G.o, .sl G.zr (kc0 G.rows) G.cr, .sl G.zi (strs G.ins) G.ci, .sl G.zo (strs G.outs) G.co, .sl G.zs (strs G.sts) G.cs]]] ∧ s' 1 = .sl zo (u8s o) co ∧ s' 7 = .ptr 1 0 0 1 ∧ s' 8 = .sl 1 (strs L) none ∧ s' 9 = .str g ∧ s' 10 = .str TX ∧ s' 11 = .int .i64 (c10 (TX.take i) : Nat) ∧ s' 12 = .int .i64 i) (m := TX.length) (by first|exact xb0|fail) (Weak.refl _ _) ⟨0, by omega, by omega, rfl, ?_⟩ ?_
 ·simp (disch := try exact discB) only [push_cast, simprocAttr, a0, a1, a2, h5, hgA, hTX]
  rfl
 ·rintro mz s' H' ⟨i, hi, rfl, rfl, b1, b7, b8, b9, b10, b11, b12⟩
  have hcl := xdy9 (TX.take i)
  rw [List.length_take] at hcl
  rcases Nat.lt_or_ge i TX.length with hlt|hge
  ·have eb := getD_some hlt
   have hc := kcI9 TX i hlt
   generalize hbb : TX.getD i 0 = b at *
   generalize hvv : (b.toNat : Int) = v at *
   generalize c10 (TX.take i) = cc at *
   by_cases hv10 : v = 10
   ·rw [if_pos hv10] at hc
    repeat' (first|(first|refine nav ?_|(refine g0_ ?_; first|refine dN (p := [1, 1, 1, 0, 0, 1, 0, 0, 1, 0, 1, 1, 1, 1, 1, 1, 1, 1]) [(86, 83)] [(82, some 78), (87, some 82)] [] ?_|refine goD ?_))|(with_reducible first|refine gG ?_ ?_|(refine And.intro (fun h => ?_) (fun h => ?_)) <;> try omega|refine andG ?_)|simp (disch := try exact discB) only [push_cast, simprocAttr, b1, b7, b8, b9, b10, b11, b12, eb, hbb, hvv, hv10])
    refine zb0 (TX.length - (i + 1)) (by omega) (by first|exact xb0|fail) ⟨i + 1, by omega, rfl, rfl, ?_⟩
    simp (disch := try exact discB) only [push_cast, simprocAttr, b1, b7, b8, b9, b10, b11, b12, hc]
   ·rw [if_neg hv10, Nat.add_zero] at hc
    repeat' (first|(first|refine nav ?_|(refine g0_ ?_; first|refine dN (p := [1, 1, 1, 0, 0, 1, 0, 0, 1, 0, 1, 1, 1, 1, 1, 1, 1, 1]) [(86, 83)] [(82, some 78), (87, some 82)] [] ?_|refine goD ?_))|(with_reducible first|refine gG ?_ ?_|(refine And.intro (fun h => ?_) (fun h => ?_)) <;> try omega|refine andG ?_)|simp (disch := try exact discB) only [push_cast, simprocAttr, b1, b7, b8, b9, b10, b11, b12, eb, hbb, hvv, hv10])
    refine zb0 (TX.length - (i + 1)) (by omega) (by first|exact xb0|fail) ⟨i + 1, by omega, rfl, rfl, ?_⟩
    simp (disch := try exact discB) only [push_cast, simprocAttr, b1, b7, b8, b9, b10, b11, b12, hc]
  ·obtain rfl : i = TX.length := by omega
   rcases hL : L with _|⟨w, ws⟩
   ·subst hL
    have hT0 : TX ++ [101, 110, 100] ++ g ++ [59] ++ g = T := by rw [hT]; simp [txO, stO]
    repeat' (first|(first|refine nav ?_|(refine g0_ ?_; first|refine dN (p := [1, 1, 1, 0, 0, 1, 0, 0, 1, 0, 1, 1, 1, 1, 1, 1, 1, 1]) [(86, 83)] [(82, some 78), (87, some 82)] [] ?_|refine goD ?_|refine qe0 1 rfl ?_))|(with_reducible first|refine gG ?_ ?_|(refine And.intro (fun h => ?_) (fun h => ?_)) <;> try omega|refine andG ?_)|refine cp h22 ?_ (hi := by (simp [idsL, idsE, AV.ids, hie, hid, hid2, hids, hiu]))|refine cp h23 ?_ (hi := by (simp [idsL, idsE, AV.ids, hie, hid, hid2, hids, hiu]))|refine cp hlv ?_ (hi := by (simp [idsL, idsE, AV.ids, hie, hid, hid2, hids, hiu]))|simp (disch := try exact discB) only [push_cast, simprocAttr, b1, b7, b8, b9, b10, b11, b12, kf0, hT0])
   ·have hLp : 0 < L.length := by rw [hL]; simp
    have hsL : strs L = [.str w] :: strs ws := by rw [hL]; rfl
    have hir := fun p => xf0 p G.rows
    have hi1 := fun p => xa0 p G.ins
    have hi2 := fun p => xa0 p G.outs
    have hi3 := fun p => xa0 p G.sts
    have hi4 := fun p => wH0 p x.m.es
    have hi5 := fun p => xa0 p
    have hlw : (strs ws).length + 1 = L.length := by rw [hL]; simp [strs]
    have hlw2 : ws.length + 1 = L.length := by rw [hL]; simp
    repeat' (first|(refine g0_ ?_; with_reducible refine wdq9 [] (p := [0, 1, 1, 1, 1, 1, 1, 1, 1, 1, 1]) rfl rfl ?_)|(refine a0_ ?_; refine zcX9 rfl ?_)|(first|refine nav ?_|(refine g0_ ?_; first|refine dN (p := [1, 1, 1, 0, 0, 1, 0, 0, 1, 0, 1, 1, 1, 1, 1, 1, 1, 1]) [(86, 83)] [(82, some 78), (87, some 82)] [] ?_|refine goD ?_))|(with_reducible first|refine gG ?_ ?_|(refine And.intro (fun h => ?_) (fun h => ?_)) <;> try omega|refine andG ?_)|simp (disch := try exact discB) only [push_cast, simprocAttr, b1, b7, b8, b9, b10, b11, b12, hsL])
    refine go_loop rfl (fun mz s' H' => ∃ k : Nat, k ≤ L.length ∧ mz = L.length - k ∧ H' = [.row 6 46 [[.int .u8 x.m.st, .int .u8 x.m.inp, .int .u8 x.m.ou, .bool x.m.pa, .sl z (u16s x.m.es) c, .int .u8 x.nm]], .row 7 27 [[.str G.nm, .int .i64 G.i, .int .i64 G.o, .sl G.zr (kc0 G.rows) G.cr, .sl G.zi (strs G.ins) G.ci, .sl G.zo (strs G.outs) G.co, .sl G.zs (strs G.sts) G.cs]]] ∧ s' 1 = .sl zo (u8s o) co ∧ s' 7 = .ptr 1 0 0 1 ∧ s' 8 = .sl 1 (strs L) none ∧ s' 9 = .str g ∧ s' 10 = .str (txO o g TX L k) ∧ s' 13 = .sl (zpR (stO o L k).2) (strs (stO o L k).2) (cpR (stO o L k).2) ∧ s' 14 = .int .i64 k) (m := L.length) (by first|exact xb0|fail) (kcW9 (k := 2) (j := 2) rfl (by omega) (by simp) (by simp [frzH, frzB, frz, qv0, Blk.below, idsE, idsL, AV.ids, zc0, hir, hi1, hi2, hi3, hi4, kf0])) ⟨0, by omega, by omega, by simp [frzH, frzB, frz, qv0, Blk.below, idsE, idsL, AV.ids, zc0, hir, hi1, hi2, hi3, hi4, kf0], ?_⟩ ?_
    ·have hcp : cpR L = none := zaf9 hLp
     have hzp := qaf9 hLp
     rw [xbz9, show (stO o L 0).2 = L from rfl]
     simp (disch := try exact discB) only [push_cast, simprocAttr, b1, b7, b8, b9, b10, b11, b12, hsL, hcp, hzp, zk0, frz, AV.ids, idsL, hids, hiu, hi5, hlw]
    ·rintro mz s' H' ⟨k, hk, rfl, rfl, b1, b7, b8, b9, b10, b13, b14⟩
     have hRl := kaN9 o L k hk
     have htx := hTx k
     have htn := qcI9 o g TX L k
     have hst : (stO o L (k + 1)).2 = (stO o L k).2.take (pkO o k (stO o L k).2.length) ++ (stO o L k).2.drop (pkO o k (stO o L k).2.length + 1) := rfl
     rcases Nat.lt_or_ge k L.length with hlt|hge
     ·have htn := htn hlt
      have htx2 := hTx (k + 1)
      rw [htn] at htx2
      simp only [List.length_append] at htx2
      obtain ⟨R2, hR2⟩ : ∃ R2, R2 = (stO o L (k + 1)).2 := ⟨_, rfl⟩
      rw [← hR2] at hst
      generalize (stO o L k).2 = R at *
      generalize txO o g TX L k = tx at *
      have hR0 : 0 < R.length := by omega
      have hcp := zaf9 hR0
      have hzp := qaf9 hR0
      have hRs := wa0 R
      have hpn := zcl9 o k hR0
      rcases Nat.lt_or_ge k o.length with hko|hko
      ·obtain rfl := hzo.resolve_left (by intro e; rw [e] at hko; exact absurd hko (Nat.not_lt_zero _))
       have hpk : pkO o k R.length = o.getD k 0 % R.length := if_pos hko
       have em : ((o.getD k 0 : Nat) : Int).tmod (R.length : Int) = ((pkO o k R.length : Nat) : Int) := by rw [hpk]; exact (Int.ofNat_tmod _ _).symm
       have eo := wcG9 o k hko
       have hob := ho _ (ve0 0 hko)
       clear hpk
       generalize pkO o k R.length = n at *
       generalize o.getD k 0 = ov at *
       have e1 := vd0 R n hpn
       have e2 := wI0 R n
       have e3 := wbc9 R (n + 1)
       have e4 : (R.take n).length = n := by rw [List.length_take]; omega
       have e5 : (R.drop (n + 1)).length = R.length - (n + 1) := List.length_drop ..
       generalize R.getD n [] = rn at *
       generalize R.take n = A at *
       generalize R.drop (n + 1) = B at *
       rcases A with _|⟨a, ar⟩ <;> rcases B with _|⟨b, bs⟩ <;> simp only [kf0, vav9, List.length_nil, List.length_cons] at e2 e3 e4 e5
       ·have hst : R2 = [] := hst
        subst hst
        repeat' (first|(first|refine nav ?_|(refine g0_ ?_; first|refine dN (p := [1, 1, 1, 0, 0, 1, 0, 0, 1, 0, 1, 1, 1, 1, 1, 1, 1, 1]) [(86, 83)] [(82, some 78), (87, some 82)] [] ?_|refine goD ?_))|(with_reducible first|refine gG ?_ ?_|(refine And.intro (fun h => ?_) (fun h => ?_)) <;> try omega|refine andG ?_)|simp (disch := try exact discB) only [push_cast, simprocAttr, b1, b7, b8, b9, b10, b13, b14, hou, eo, em, hRs, e1, e2, e3, hcp, hzp, Int.toNat_natCast_add_one, List.take_length])
        refine zb0 (L.length - (k + 1)) (by omega) (by first|exact xb0|fail) ⟨k + 1, by omega, rfl, rfl, ?_⟩
        rw [← hR2, htn]
        simp (disch := try exact discB) only [push_cast, simprocAttr, b1, b7, b8, b9, b10, b13, b14, hou, eo, em, hRs, e1, e2, e3, hcp, hzp, Int.toNat_natCast_add_one, List.take_length, cpR, zpR, kf0]
       ·have hes : [.str b] :: strs bs = strs R2 := by rw [hst, ← zaO9]; first|rfl|(rw [kf0, List.append_nil]; rfl)
        have hcq : cpR R2 = none := zaf9 (by rw [hst]; simp)
        have hzq : zpR R2 = 1 := qaf9 (by rw [hst]; simp)
        have hl2 := wa0 R2
        rw [← hes] at hl2
        repeat' (first|(first|refine nav ?_|(refine g0_ ?_; first|refine dN (p := [1, 1, 1, 0, 0, 1, 0, 0, 1, 0, 1, 1, 1, 1, 1, 1, 1, 1]) [(86, 83)] [(82, some 78), (87, some 82)] [] ?_|refine goD ?_))|(with_reducible first|refine gG ?_ ?_|(refine And.intro (fun h => ?_) (fun h => ?_)) <;> try omega|refine andG ?_)|simp (disch := try exact discB) only [push_cast, simprocAttr, b1, b7, b8, b9, b10, b13, b14, hou, eo, em, hRs, e1, e2, e3, hcp, hzp, Int.toNat_natCast_add_one, List.take_length])
        refine ko0 (L.length - (k + 1)) 2 (j := 2) rfl (by omega) (by first|exact xb0|fail) (by omega) (by simp [frzH]) (by simp [frzH, frzB, frz, qv0, Blk.below, idsE, idsL, AV.ids, zc0, hir, hi1, hi2, hi3, hi4, kf0]) ⟨k + 1, by omega, rfl, by simp [frzH, frzB, frz, qv0, Blk.below, idsE, idsL, AV.ids, zc0, hir, hi1, hi2, hi3, hi4, kf0], ?_⟩
        rw [← hR2, htn]
        simp (disch := try exact discB) only [push_cast, simprocAttr, b1, b7, b8, b9, b10, b13, b14, hou, eo, em, hRs, e1, e2, e3, hcp, hzp, Int.toNat_natCast_add_one, List.take_length, zk0, frz, AV.ids, idsL, hids, hiu, hi5, hcq, hzq]
        rw [hes]
       ·have hes : [.str a] :: strs ar = strs R2 := by rw [hst, ← zaO9]; first|rfl|(rw [kf0, List.append_nil]; rfl)
        have hcq : cpR R2 = none := zaf9 (by rw [hst]; simp)
        have hzq : zpR R2 = 1 := qaf9 (by rw [hst]; simp)
        have hl2 := wa0 R2
        rw [← hes] at hl2
        repeat' (first|(first|refine nav ?_|(refine g0_ ?_; first|refine dN (p := [1, 1, 1, 0, 0, 1, 0, 0, 1, 0, 1, 1, 1, 1, 1, 1, 1, 1]) [(86, 83)] [(82, some 78), (87, some 82)] [] ?_|refine goD ?_))|(with_reducible first|refine gG ?_ ?_|(refine And.intro (fun h => ?_) (fun h => ?_)) <;> try omega|refine andG ?_)|simp (disch := try exact discB) only [push_cast, simprocAttr, b1, b7, b8, b9, b10, b13, b14, hou, eo, em, hRs, e1, e2, e3, hcp, hzp, Int.toNat_natCast_add_one, List.take_length])
        refine ko0 (L.length - (k + 1)) 2 (j := 2) rfl (by omega) (by first|exact xb0|fail) (by omega) (by simp [frzH]) (by simp [frzH, frzB, frz, qv0, Blk.below, idsE, idsL, AV.ids, zc0, hir, hi1, hi2, hi3, hi4, kf0]) ⟨k + 1, by omega, rfl, by simp [frzH, frzB, frz, qv0, Blk.below, idsE, idsL, AV.ids, zc0, hir, hi1, hi2, hi3, hi4, kf0], ?_⟩
        rw [← hR2, htn]
        simp (disch := try exact discB) only [push_cast, simprocAttr, b1, b7, b8, b9, b10, b13, b14, hou, eo, em, hRs, e1, e2, e3, hcp, hzp, Int.toNat_natCast_add_one, List.take_length, zk0, frz, AV.ids, idsL, hids, hiu, hi5, hcq, hzq]
        rw [hes]
       ·have hic : ∀ p, idsE p (strs ar ++ [.str b] :: strs bs) = true := fun p => by simp [idsE, idsL, AV.ids]
        have hes : [.str a] :: (strs ar ++ [.str b] :: strs bs) = strs R2 := by rw [hst, ← zaO9]; first|rfl|(rw [kf0, List.append_nil]; rfl)
        have hcq : cpR R2 = none := zaf9 (by rw [hst]; simp)
        have hzq : zpR R2 = 1 := qaf9 (by rw [hst]; simp)
        have hl2 := wa0 R2
        rw [← hes] at hl2
        repeat' (first|(first|refine nav ?_|(refine g0_ ?_; first|refine dN (p := [1, 1, 1, 0, 0, 1, 0, 0, 1, 0, 1, 1, 1, 1, 1, 1, 1, 1]) [(86, 83)] [(82, some 78), (87, some 82)] [] ?_|refine goD ?_))|(with_reducible first|refine gG ?_ ?_|(refine And.intro (fun h => ?_) (fun h => ?_)) <;> try omega|refine andG ?_)|simp (disch := try exact discB) only [push_cast, simprocAttr, b1, b7, b8, b9, b10, b13, b14, hou, eo, em, hRs, e1, e2, e3, hcp, hzp, Int.toNat_natCast_add_one, List.take_length])
        refine ko0 (L.length - (k + 1)) 2 (j := 2) rfl (by omega) (by first|exact xb0|fail) (by omega) (by simp [frzH]) (by simp [frzH, frzB, frz, qv0, Blk.below, idsE, idsL, AV.ids, zc0, hir, hi1, hi2, hi3, hi4, kf0]) ⟨k + 1, by omega, rfl, by simp [frzH, frzB, frz, qv0, Blk.below, idsE, idsL, AV.ids, zc0, hir, hi1, hi2, hi3, hi4, kf0], ?_⟩
        rw [← hR2, htn]
        simp (disch := try exact discB) only [push_cast, simprocAttr, b1, b7, b8, b9, b10, b13, b14, hou, eo, em, hRs, e1, e2, e3, hcp, hzp, Int.toNat_natCast_add_one, List.take_length, zk0, frz, AV.ids, idsL, hids, hiu, hi5, hcq, hzq, hic]
        rw [hes]
      ·have hpk : pkO o k R.length = 0 := if_neg (by omega)
       rw [hpk] at hst htn htx2 hpn
       clear hpk
       have e1 := vd0 R 0 hpn
       have e3 := wbc9 R 1
       have e5 : (R.drop 1).length = R.length - 1 := List.length_drop ..
       rw [List.take_zero, List.nil_append, Nat.zero_add] at hst
       generalize R.getD 0 [] = rn at *
       rw [← hst] at e3 e5
       rcases R2 with _|⟨b, bs⟩ <;> simp only [kf0, vav9, List.length_nil, List.length_cons] at e3 e5
       ·clear hst
        repeat' (first|(first|refine nav ?_|(refine g0_ ?_; first|refine dN (p := [1, 1, 1, 0, 0, 1, 0, 0, 1, 0, 1, 1, 1, 1, 1, 1, 1, 1]) [(86, 83)] [(82, some 78), (87, some 82)] [] ?_|refine goD ?_))|(with_reducible first|refine gG ?_ ?_|(refine And.intro (fun h => ?_) (fun h => ?_)) <;> try omega|refine andG ?_)|simp (disch := try exact discB) only [push_cast, simprocAttr, b1, b7, b8, b9, b10, b13, b14, hou, hRs, e1, e3, hcp, hzp, List.take_length])
        refine zb0 (L.length - (k + 1)) (by omega) (by first|exact xb0|fail) ⟨k + 1, by omega, rfl, rfl, ?_⟩
        rw [← hR2, htn]
        simp (disch := try exact discB) only [push_cast, simprocAttr, b1, b7, b8, b9, b10, b13, b14, hou, hRs, e1, e3, hcp, hzp, List.take_length, cpR, zpR, kf0]
       ·have hcq : cpR (b :: bs) = none := zaf9 (by simp)
        have hzq : zpR (b :: bs) = 1 := qaf9 (by simp)
        have hl2 := wa0 bs
        repeat' (first|(first|refine nav ?_|(refine g0_ ?_; first|refine dN (p := [1, 1, 1, 0, 0, 1, 0, 0, 1, 0, 1, 1, 1, 1, 1, 1, 1, 1]) [(86, 83)] [(82, some 78), (87, some 82)] [] ?_|refine goD ?_))|(with_reducible first|refine gG ?_ ?_|(refine And.intro (fun h => ?_) (fun h => ?_)) <;> try omega|refine andG ?_)|simp (disch := try exact discB) only [push_cast, simprocAttr, b1, b7, b8, b9, b10, b13, b14, hou, hRs, e1, e3, hcp, hzp, List.take_length])
        refine ko0 (L.length - (k + 1)) 2 (j := 2) rfl (by omega) (by first|exact xb0|fail) (by omega) (by simp [frzH]) (by simp [frzH, frzB, frz, qv0, Blk.below, idsE, idsL, AV.ids, zc0, hir, hi1, hi2, hi3, hi4, kf0]) ⟨k + 1, by omega, rfl, by simp [frzH, frzB, frz, qv0, Blk.below, idsE, idsL, AV.ids, zc0, hir, hi1, hi2, hi3, hi4, kf0], ?_⟩
        rw [← hR2, htn]
        simp (disch := try exact discB) only [push_cast, simprocAttr, b1, b7, b8, b9, b10, b13, b14, hou, hRs, e1, e3, hcp, hzp, List.take_length, zk0, frz, AV.ids, idsL, hids, hiu, hi5, hcq, hzq, vav9]
     ·obtain rfl : k = L.length := by omega
      have hRn : (stO o L L.length).2 = [] := List.length_eq_zero_iff.1 (by omega)
      rw [hRn] at b13
      have hT0 := hT.symm
      have hTl2 := congrArg List.length hT
      simp only [List.length_append, List.length_cons, List.length_nil] at hTl2
      have hw0 := htw w ws hL
      have hwl := hLle w (by rw [hL]; exact List.mem_cons_self)
      unfold zSpecA at hw0
      have e0 : (strs L).getD 0 [] = [.str w] := by rw [hsL]; rfl
      have hLn0 : ¬ L.length = 0 := by omega
      generalize txO o g TX L L.length = tx at *
      clear hLle hL
      repeat' (first|(first|refine nav ?_|(refine g0_ ?_; first|refine dN (p := [1, 1, 1, 0, 0, 1, 0, 0, 1, 0, 1, 1, 1, 1, 1, 1, 1, 1]) [(86, 83)] [(82, some 78), (87, some 82)] [] ?_|refine goD ?_))|(with_reducible first|refine gG ?_ ?_|(refine And.intro (fun h => ?_) (fun h => ?_)) <;> try omega|refine andG ?_)|refine cp h22 ?_ (hi := by (simp [idsL, idsE, AV.ids, hie, hid, hid2, hids, hiu]))|refine cp h23 ?_ (hi := by (simp [idsL, idsE, AV.ids, hie, hid, hid2, hids, hiu]))|refine cp h26 ?_ (hi := by (simp [idsL, idsE, AV.ids, hie, hid, hid2, hids, hiu]))|refine cp hw0 ?_ (hi := by (simp [idsL, idsE, AV.ids, hie, hid, hid2, hids, hiu]))|refine cp hlv ?_ (hi := by (simp [idsL, idsE, AV.ids, hie, hid, hid2, hids, hiu]))|simp (disch := try exact discB) only [push_cast, simprocAttr, b1, b7, b8, b9, b10, b13, b14, kf0, cpR, zpR, hT0, e0, hLs])
end Go.Proofs
