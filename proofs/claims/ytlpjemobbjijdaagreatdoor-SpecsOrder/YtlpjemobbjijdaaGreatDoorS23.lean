import Derived.Test.YtlpjemobbjijdaaGreatDoorS22
namespace Go.Proofs
open Go Go.V
set_option linter.unusedVariables false
set_option linter.unusedSimpArgs false
set_option maxHeartbeats 0
set_option maxRecDepth 100000
def bigT (t : Bs) : Bool := decide (65536 < t.length)
def qde9 (x : GS) : AV := if chkS x = 0 then (if bigT (wba9 x) = true then .tup [.str [], .int .i64 3] else .tup [.str (wba9 x), .int .i64 0]) else .tup [.str [], .int .i64 (chkS x)]
theorem zbx9 (p : Nat → Bool) (s : Bs) : idsE p (byt s) = true := qw0 _ _ fun x => by simp [idsL, AV.ids]
theorem qcF9 (x : GS) : wba9 x ≠ [] := by simp [wba9, lnL]
theorem vei9 (t : Bs) (B0 : Blk) (K : List Blk) : ka0 Tryz.prog G0 51 [.ptr 1 0 0 1] (B0 :: bldB (.ptr 1 0 0 1) t.length :: .row 1 5 (byt t) :: K) (.int .i64 t.length) (B0 :: bldB (.ptr 1 0 0 1) t.length :: .row 1 5 (byt t) :: K) := by
 unfold bldB
 refine vm0 8 [.tmp 2] Tryz.func51 rfl rfl rfl (by simp) ?_
 intro s ⟨a0, hz⟩
 clear hz
 repeat' (first|refine nv ?_|(with_reducible first|refine gG ?_ ?_|(refine And.intro (fun h => ?_) (fun h => ?_)) <;> try omega|refine andG ?_)|simp (disch := try exact discB) only [push_cast, simprocAttr, a0, vw0])
def tS (x : GS) (s : Nat) : Bs := wm0 x ++ xba9 x s
def tR (x : GS) (s k : Nat) : Bs := tS x s ++ rowT x s k
theorem zde9 (x : GS) : wm0 x = tS x 0 := by simp [tS, qaE9]
theorem xde9 (x : GS) (s : Nat) : tS x s = tR x s 0 := by simp [tR, vba9]
theorem xdv9 (x : GS) (s : Nat) : tR x s (x.row s).length = tS x (s + 1) := by rw [tR, tS, tS, zaE9, List.append_assoc]
theorem wde9 (x : GS) (s k : Nat) : tR x s (k + 1) = tR x s k ++ eLn x s k ((x.row s).getD k (0, 0)) := by rw [tR, tR, kba9, List.append_assoc]
theorem kei9 {x : GS} (h : x.V) (hh : (wm0 x).length ≤ 2000) (s k : Nat) (hs : s < x.rows.length) (hk : k ≤ (x.row s).length) : (tR x s k).length ≤ 200000 := by
 have h1 := waM9 h s (by omega)
 have h2 := kbm9 h s k
 have h3 := (zd0 h.m).2.2.2.1 s hs
 have h4 := (zd0 h.m).1.2
 have h6 := (zd0 h.m).2.2.1.2
 have h5 : (x.row s).length ≤ 16 := by unfold GS.row; omega
 rw [tR, tS, List.length_append, List.length_append]
 omega
theorem wdv9 (x : GS) (hx : x.Ok) : PC Tryz.prog G0 14 [.agg x.A] (qde9 x) := by
 have hc := zae9 x hx
 unfold qde9
 by_cases h0 : chkS x = 0
 rotate_left
 ·rw [if_neg h0]
  have hid := fun p => zE0 p x
  unfold GS.A at *
  generalize chkS x = m at *
  refine xd0 0 92 [.tmp 2, .tmp 3] Tryz.func14 rfl rfl rfl (by simp) ?_
  intro s ⟨a0, hz⟩
  clear hz
  repeat' (first|refine nv ?_|(with_reducible first|refine gG ?_ ?_|(refine And.intro (fun h => ?_) (fun h => ?_)) <;> try omega|refine andG ?_)|refine cp hc ?_ (hi := by (simp [idsL, idsE, AV.ids, hid]))|simp (disch := try exact discB) only [push_cast, simprocAttr, a0])
 ·rw [if_pos h0]
  rw [h0] at hc
  have hv := chkS_zero.1 h0
  obtain ⟨l1, l2, l3, l4, l5, l6⟩ := hv.cnts
  obtain ⟨n1, n2, n3, n4⟩ := hv.len
  have hm := zd0 hv.m
  have hz0 : x.zr = 1 := hx.r.resolve_left (by intro e; have := hm.2.2.1.1; rw [e] at this; simp at this)
  have hz1 : x.zi = 1 := hx.i.resolve_left (by intro e; rw [e] at l4; simp at l4)
  have hz2 : x.zo = 1 := hx.o.resolve_left (by intro e; rw [e] at l5; simp at l5)
  have hz3 : x.zs = 1 := hx.s.resolve_left (by intro e; rw [e] at l6; simp at l6)
  have hid := fun p => zE0 p x
  have hJ1 := fun H => qaZ9 H (.sl 1 (strs x.ins) x.ci) x.ins [44, 32] (.inl ⟨_, rfl⟩) (by have := xk0 n1 16 l1; omega) (by omega)
  have hJ2 := fun H => qaZ9 H (.sl 1 (strs x.outs) x.co) x.outs [44, 32] (.inl ⟨_, rfl⟩) (by have := xk0 n2 16 l2; omega) (by omega)
  have hJ3 := fun H => qaZ9 H (.sl 1 (strs x.sts) x.cs) x.sts [44, 32] (.inl ⟨_, rfl⟩) (by have := xk0 n3 64 l3; omega) (by omega)
  have b1 := xk0 n1 16 l1
  have b2 := xk0 n2 16 l2
  have b3 := xk0 n3 64 l3
  have c0 := zI0 kMac x.nm 16 (by decide) n4
  have c1 := zI0 kIns (Lib.join x.ins [44, 32]) 288 (by decide) b1
  have c2 := zI0 xn0 (Lib.join x.outs [44, 32]) 288 (by decide) b2
  have c3 := zI0 kSts (Lib.join x.sts [44, 32]) 1152 (by decide) b3
  have hl0 := kaD9 [kMac, x.nm] (some 2) [] (.row 7 27 [x.A]) (bldB (.lit (.pointer none)) 0) [] (by simp) (by omega) (by simp) (.inr ⟨rfl, rfl⟩)
  have hl1 := kaD9 [kIns, Lib.join x.ins [44, 32]] (some 2) (lnL [kMac, x.nm]) (.row 7 27 [x.A]) _ [] (by simp) (by omega) (by omega) (.inl rfl)
  have hl2 := kaD9 [xn0, Lib.join x.outs [44, 32]] (some 2) (lnL [kMac, x.nm] ++ lnL [kIns, Lib.join x.ins [44, 32]]) (.row 7 27 [x.A]) _ [] (by simp) (by omega) (by rw [List.length_append]; omega) (.inl rfl)
  have hl3 := kaD9 [kSts, Lib.join x.sts [44, 32]] (some 2) (lnL [kMac, x.nm] ++ lnL [kIns, Lib.join x.ins [44, 32]] ++ lnL [xn0, Lib.join x.outs [44, 32]]) (.row 7 27 [x.A]) _ [] (by simp) (by omega) (by rw [List.length_append, List.length_append]; omega) (.inl rfl)
  rw [List.nil_append] at hl0
  have hh : (wm0 x).length ≤ 2000 := by simp only [wm0, List.length_append]; omega
  have hhd : lnL [kMac, x.nm] ++ lnL [kIns, Lib.join x.ins [44, 32]] ++ lnL [xn0, Lib.join x.outs [44, 32]] ++ lnL [kSts, Lib.join x.sts [44, 32]] = wm0 x := rfl
  rw [hhd] at hl3
  have e0 : strs [kMac, x.nm] = [[.str [109, 97, 99, 104, 105, 110, 101]], [.str x.nm]] := rfl
  have e1 : strs [kIns, Lib.join x.ins [44, 32]] = [[.str [105, 110, 112, 117, 116, 115]], [.str (Lib.join x.ins [44, 32])]] := rfl
  have e2 : strs [xn0, Lib.join x.outs [44, 32]] = [[.str [111, 117, 116, 112, 117, 116, 115]], [.str (Lib.join x.outs [44, 32])]] := rfl
  have e3 : strs [kSts, Lib.join x.sts [44, 32]] = [[.str [115, 116, 97, 116, 101, 115]], [.str (Lib.join x.sts [44, 32])]] := rfl
  rw [e0] at hl0
  rw [e1] at hl1
  rw [e2] at hl2
  rw [e3] at hl3
  have hbyt : byt [] = [] := rfl
  rw [hbyt] at hl0
  unfold bldB at hl0 hl1 hl2 hl3
  unfold GS.A at *
  rw [hz0, hz1, hz2, hz3] at hc hl0 hl1 hl2 hl3 ⊢
  clear c0 c1 c2 c3 b1 b2 b3 hhd e0 e1 e2 e3
  generalize lnL [kMac, x.nm] ++ lnL [kIns, Lib.join x.ins [44, 32]] ++ lnL [xn0, Lib.join x.outs [44, 32]] = T3 at *
  generalize lnL [kMac, x.nm] ++ lnL [kIns, Lib.join x.ins [44, 32]] = T2 at *
  generalize lnL [kMac, x.nm] = T1 at *
  have hi1 : ∀ p, idsE p (kc0 x.rows) = true := fun p => xf0 p _
  have hi2 : ∀ p, idsE p (strs x.ins) = true := fun p => xa0 p _
  have hi3 : ∀ p, idsE p (strs x.outs) = true := fun p => xa0 p _
  have hi4 : ∀ p, idsE p (strs x.sts) = true := fun p => xa0 p _
  have hlR := wu0 x.rows
  refine xd0 0 92 [.tmp 2, .tmp 3] Tryz.func14 rfl rfl rfl (by simp) ?_
  intro s ⟨a0, hz⟩
  clear hz
  repeat' (first|(first|(with_reducible refine wb0 (p := [0, 1, 1, 1]) ?_)|refine nav ?_|(refine g0_ ?_; first|refine goD ?_))|(with_reducible first|refine gG ?_ ?_|(refine And.intro (fun h => ?_) (fun h => ?_)) <;> try omega|refine andG ?_)|refine cp hc ?_ (hi := by (simp [idsL, idsE, AV.ids, hid, hi1, hi2, hi3, hi4]))|refine cl ((hJ1 _)) ?_|refine cl ((hJ2 _)) ?_|refine cl ((hJ3 _)) ?_|refine cl hl0 ?_|refine cl hl1 ?_|refine cl hl2 ?_|refine cl hl3 ?_|simp (disch := try exact discB) only [push_cast, simprocAttr, a0, en48])
  refine Halt.mk ?_
  refine zG0 (by first|exact xb0|fail) (zm0 (b := 1) (i := 0) (j := 1) (sz := 1) (ty := 5) rfl rfl rfl) ?_
  repeat' (first|refine nv ?_|(with_reducible first|refine gG ?_ ?_|(refine And.intro (fun h => ?_) (fun h => ?_)) <;> try omega|refine andG ?_)|refine cp hc ?_ (hi := by (simp [idsL, idsE, AV.ids, hid, hi1, hi2, hi3, hi4]))|refine cl ((hJ1 _)) ?_|refine cl ((hJ2 _)) ?_|refine cl ((hJ3 _)) ?_|refine cl hl0 ?_|refine cl hl1 ?_|refine cl hl2 ?_|refine cl hl3 ?_|simp (disch := try exact discB) only [push_cast, simprocAttr, a0, en48])
  have hT0 := zde9 x
  rw [hT0] at *
  refine go_loop rfl (fun mz s' H' => ∃ s : Nat, s ≤ x.rows.length ∧ mz = x.rows.length - s ∧ H' = [.row 7 27 [[.str x.nm, .int .i64 x.i, .int .i64 x.o, .sl 1 (kc0 x.rows) x.cr, .sl 1 (strs x.ins) x.ci, .sl 1 (strs x.outs) x.co, .sl 1 (strs x.sts) x.cs]], .row 2 89 [[.ptr 1 0 0 1, .own 2 (tS x s).length (tS x s).length none]], .row 1 5 (byt (tS x s))] ∧ s' 1 = .ptr 0 0 0 1 ∧ s' 5 = .ptr 1 0 0 1 ∧ s' 6 = .fn 48 [.ptr 1 0 0 1] ∧ s' 42 = .sl 1 (kc0 x.rows) x.cr ∧ s' 43 = .int .i64 x.rows.length ∧ s' 44 = .int .i64 s) (m := x.rows.length) (by first|exact xb0|fail) (Weak.refl _ _) ⟨0, by omega, by omega, rfl, ?_⟩ ?_
  ·simp (disch := try exact discB) only [push_cast, simprocAttr, a0, en48]
  ·rintro mz s' H' ⟨s, hs, rfl, rfl, b1, b5, b6, b42, b43, b44⟩
   rcases Nat.lt_or_ge s x.rows.length with hlt|hge
   ·have e1 := xr0 x.rows s hlt
    have hw := hm.2.2.2.1 s hlt
    have hfit := hm.2.2.2.2 s hlt
    have hRl := xdv9 x s
    have hRs := wde9 x s
    have hRb := fun k hk => kei9 hv hh s k hlt hk
    rw [xde9 x s]
    unfold GS.row at hRl hRs hRb
    generalize (x.rows.getD s ([], none)).2 = cr at *
    generalize (x.rows.getD s ([], none)).1 = r at *
    have hrl := vi0 r
    repeat' (first|refine nv ?_|(with_reducible first|refine gG ?_ ?_|(refine And.intro (fun h => ?_) (fun h => ?_)) <;> try omega|refine andG ?_)|simp (disch := try exact discB) only [push_cast, simprocAttr, b1, b5, b6, b42, b43, b44, e1, hlR, hrl])
    refine go_loop rfl (fun mz s' H' => ∃ k : Nat, k ≤ r.length ∧ mz = r.length - k ∧ H' = [.row 7 27 [[.str x.nm, .int .i64 x.i, .int .i64 x.o, .sl 1 (kc0 x.rows) x.cr, .sl 1 (strs x.ins) x.ci, .sl 1 (strs x.outs) x.co, .sl 1 (strs x.sts) x.cs]], .row 2 89 [[.ptr 1 0 0 1, .own 2 (tR x s k).length (tR x s k).length none]], .row 1 5 (byt (tR x s k))] ∧ s' 1 = .ptr 0 0 0 1 ∧ s' 5 = .ptr 1 0 0 1 ∧ s' 6 = .fn 48 [.ptr 1 0 0 1] ∧ s' 42 = .sl 1 (kc0 x.rows) x.cr ∧ s' 43 = .int .i64 x.rows.length ∧ s' 44 = .int .i64 s ∧ s' 7 = .int .i64 s ∧ s' 49 = .sl 2 (rowA r) cr ∧ s' 50 = .int .i64 r.length ∧ s' 51 = .int .i64 k) (m := r.length) (by first|exact xb0|fail) (Weak.refl _ _) ⟨0, by omega, by omega, rfl, ?_⟩ ?_
    ·simp (disch := try exact discB) only [push_cast, simprocAttr, b1, b5, b6, b42, b43, b44, e1, hlR, hrl]
    ·clear b1 b5 b6 b42 b43 b44
     rintro mz s' H' ⟨k, hk, rfl, rfl, b1, b5, b6, b42, b43, b44, b7, b49, b50, b51⟩
     rcases Nat.lt_or_ge k r.length with hlt3|hge3
     ·have e3 := zp0 r k hlt3
      have hsc := hRs k
      have hb := hRb k (by omega)
      have hf1 := fitE_iff.1 (List.all_eq_true.1 hfit _ (ve0 (0, 0) hlt3))
      generalize r.getD k (0, 0) = e at *
      obtain ⟨t1, o1⟩ := e
      simp only [eA] at e3
      simp only [Prod.mk.injEq] at hf1
      by_cases ht : t1 = -1
      ·subst ht
       rw [eLn, if_pos rfl, List.append_nil] at hsc
       repeat' (first|(first|refine nav ?_|(refine g0_ ?_; first|refine ku0 (dr := exQ [59] []) rfl rfl mixed (by first|assumption|kernel_rfl) ?_|refine goD ?_))|(with_reducible first|refine gG ?_ ?_|(refine And.intro (fun h => ?_) (fun h => ?_)) <;> try omega|refine andG ?_)|simp (disch := try exact discB) only [push_cast, simprocAttr, b1, b5, b6, b42, b43, b44, b7, b49, b50, b51, e3, hrl])
       rw [← hsc]
       refine wg0 (r.length - (k + 1)) 3 (by omega) (by first|exact xb0|fail) (by omega) (by simp) (by simp [Blk.below, idsE, idsL, AV.ids, hid, hi1, hi2, hi3, hi4, zbx9]) ⟨k + 1, by omega, rfl, rfl, ?_⟩
       simp (disch := try exact discB) only [push_cast, simprocAttr, b1, b5, b6, b42, b43, b44, b7, b49, b50, b51, e3, hrl]
       simp [zk0, AV.ids, idsL, hi1, wl0]
      ·rcases hf1 with ⟨q, _⟩|⟨q1, q2, q3, q4⟩
       ·exact absurd q ht
       obtain ⟨tn, rfl⟩ : ∃ n : Nat, t1 = n := ⟨t1.toNat, by omega⟩
       obtain ⟨on, rfl⟩ : ∃ n : Nat, o1 = n := ⟨o1.toNat, by omega⟩
       rw [eLn, if_neg ht, Int.toNat_natCast, Int.toNat_natCast] at hsc
       have hll := kcg9 hv s k ((tn : Int), (on : Int))
       rw [eLn, if_neg ht, Int.toNat_natCast, Int.toNat_natCast] at hll
       have hcs := hv.cs
       have hci := hv.ci
       have hco := hv.co
       have hc59 : ([59] : List Nat).contains 59 = true := rfl
       have g1 := vd0 x.sts s (by omega)
       have g2 := vd0 x.ins k (by omega)
       have g3 := vd0 x.outs on (by omega)
       have g4 := vd0 x.sts tn (by omega)
       have hL := kaD9 [x.sts.getD s [], x.ins.getD k [], [47], x.outs.getD on [], [45, 62], x.sts.getD tn []] (some 6) (tR x s k) (.row 7 27 [[.str x.nm, .int .i64 x.i, .int .i64 x.o, .sl 1 (kc0 x.rows) x.cr, .sl 1 (strs x.ins) x.ci, .sl 1 (strs x.outs) x.co, .sl 1 (strs x.sts) x.cs]]) _ [.row 2 70 [[.int .i64 (tn : Int), .int .i64 (on : Int)]]] (by simp) (by omega) (by omega) (.inl rfl)
       rw [← hsc] at hL
       rw [show strs [x.sts.getD s [], x.ins.getD k [], [47], x.outs.getD on [], [45, 62], x.sts.getD tn []] = [[.str (x.sts.getD s [])], [.str (x.ins.getD k [])], [.str [47]], [.str (x.outs.getD on [])], [.str [45, 62]], [.str (x.sts.getD tn [])]] from rfl] at hL
       unfold bldB at hL
       have hls := wa0 x.sts
       have hli := wa0 x.ins
       have hlo := wa0 x.outs
       generalize x.sts.getD s [] = S1 at *
       generalize x.ins.getD k [] = S2 at *
       generalize x.outs.getD on [] = S3 at *
       generalize x.sts.getD tn [] = S4 at *
       repeat' (first|(first|refine nav ?_|(refine g0_ ?_; first|refine ku0 (dr := exQ [59] []) rfl rfl mixed (by first|assumption|kernel_rfl) ?_|refine goD ?_))|(with_reducible first|refine gG ?_ ?_|(refine And.intro (fun h => ?_) (fun h => ?_)) <;> try omega|refine andG ?_)|refine cl hL ?_|simp (disch := try exact discB) only [push_cast, simprocAttr, b1, b5, b6, b42, b43, b44, b7, b49, b50, b51, e3, hrl, g1, g2, g3, g4, hls, hli, hlo, ht, hc59])
       refine wg0 (r.length - (k + 1)) 3 (by omega) (by first|exact xb0|fail) (by omega) (by simp) (by simp [Blk.below, idsE, idsL, AV.ids, hid, hi1, hi2, hi3, hi4, zbx9]) ⟨k + 1, by omega, rfl, rfl, ?_⟩
       simp (disch := try exact discB) only [push_cast, simprocAttr, b1, b5, b6, b42, b43, b44, b7, b49, b50, b51, e3, hrl, g1, g2, g3, g4, hls, hli, hlo, ht, hc59]
       simp [zk0, AV.ids, idsL, hi1, wl0]
     ·obtain rfl : k = r.length := by omega
      repeat' (first|(first|refine nav ?_|(refine g0_ ?_; first|refine ku0 (dr := exQ [59] []) rfl rfl mixed (by first|assumption|kernel_rfl) ?_|refine goD ?_))|(with_reducible first|refine gG ?_ ?_|(refine And.intro (fun h => ?_) (fun h => ?_)) <;> try omega|refine andG ?_)|refine cl hL ?_|simp (disch := try exact discB) only [push_cast, simprocAttr, b1, b5, b6, b42, b43, b44, b7, b49, b50, b51, hrl])
      rw [hRl]
      refine zb0 (x.rows.length - (s + 1)) (by omega) (by first|exact xb0|fail) ⟨s + 1, by omega, rfl, rfl, ?_⟩
      simp (disch := try exact discB) only [push_cast, simprocAttr, b1, b5, b6, b42, b43, b44, b7, b49, b50, b51, hrl]
   ·obtain rfl : s = x.rows.length := by omega
    have hTl : (tS x x.rows.length).length ≤ 200000 := by
     have := waM9 hv x.rows.length (Nat.le_refl _)
     rw [tS, List.length_append]; omega
    have htx : wba9 x = tS x x.rows.length ++ lnL [kEnd] := rfl
    have hLE := kaD9 [kEnd] (some 1) (tS x x.rows.length) (.row 7 27 [[.str x.nm, .int .i64 x.i, .int .i64 x.o, .sl 1 (kc0 x.rows) x.cr, .sl 1 (strs x.ins) x.ci, .sl 1 (strs x.outs) x.co, .sl 1 (strs x.sts) x.cs]]) _ [] (by simp) (by decide) (by omega) (.inl rfl)
    rw [← htx] at hLE
    rw [show strs [kEnd] = [[.str [101, 110, 100]]] from rfl] at hLE
    have hlen := vei9 (wba9 x) (.row 7 27 [[.str x.nm, .int .i64 x.i, .int .i64 x.o, .sl 1 (kc0 x.rows) x.cr, .sl 1 (strs x.ins) x.ci, .sl 1 (strs x.outs) x.co, .sl 1 (strs x.sts) x.cs]]) []
    have hstr := kcE9 (wba9 x) (.row 7 27 [[.str x.nm, .int .i64 x.i, .int .i64 x.o, .sl 1 (kc0 x.rows) x.cr, .sl 1 (strs x.ins) x.ci, .sl 1 (strs x.outs) x.co, .sl 1 (strs x.sts) x.cs]]) (qcF9 x) (by rw [htx, List.length_append, show (lnL [kEnd]).length = 5 from rfl]; omega)
    unfold bldB at hLE hlen hstr
    generalize wba9 x = T at *
    unfold bigT
    repeat' (first|(first|refine nav ?_|(refine g0_ ?_; first|refine ku0 (dr := exQ [59] []) rfl rfl mixed (by first|assumption|kernel_rfl) ?_|refine goD ?_))|(with_reducible first|refine gG ?_ ?_|(refine And.intro (fun h => ?_) (fun h => ?_)) <;> try omega|refine andG ?_)|refine cl hLE ?_|refine cl hlen ?_|refine cl hstr ?_|simp (disch := try exact discB) only [push_cast, simprocAttr, b1, b5, b6, b42, b43, b44, hlR])
    ·rw [if_pos (by omega)]
     simp (disch := try exact discB) only [push_cast, simprocAttr, b1, b5, b6, b42, b43, b44, hlR]
    ·rw [if_neg (by omega)]
     simp (disch := try exact discB) only [push_cast, simprocAttr, b1, b5, b6, b42, b43, b44, hlR]
end Go.Proofs
