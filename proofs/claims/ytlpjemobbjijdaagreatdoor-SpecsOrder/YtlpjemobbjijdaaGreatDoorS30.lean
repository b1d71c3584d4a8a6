import Derived.Test.YtlpjemobbjijdaaGreatDoorS28
namespace Go.Proofs
open Go Go.V
set_option linter.unusedVariables false
set_option linter.unusedSimpArgs false
set_option maxHeartbeats 0
set_option maxRecDepth 100000
def cmK (l : List Bs) (k : Nat) : Bs := Lib.join (l.take k) [44, 32]
theorem kbx9 (l : List Bs) : cmK l 0 = [] := by simp [cmK, Lib.join_nil]
theorem wdg9 (l : List Bs) (h : 0 < l.length) : cmK l 1 = l.getD 0 [] := by
 rw [cmK, qC0 l 0 h, List.take_zero, List.nil_append, Lib.join_one]
theorem vcF9 (l : List Bs) (k : Nat) (h0 : 0 < k) (h : k < l.length) : cmK l (k + 1) = cmK l k ++ [44, 32] ++ l.getD k [] := by
 rw [cmK, qC0 l k h, qaY9 _ _ _ (by intro e; have := congrArg List.length e; rw [List.length_take, List.length_nil] at this; omega), cmK, List.append_assoc]
theorem qdw9 (l : List Bs) (h : ∀ s ∈ l, s.length ≤ 16) (k : Nat) : (cmK l k).length ≤ k * 18 := Nat.le_trans (wal9 16 [44, 32] _ fun s hs => h s (List.mem_of_mem_take hs)) (Nat.mul_le_mul_right _ (by simp; omega))
theorem wbn9 (z : Nat) (l : List Bs) (c : Option Nat) (hz : l = [] ∨ z = 1) (hl : l.length ≤ 1000) (hs : ∀ s ∈ l, s.length ≤ 16) : PC Tryz.prog G0 76 [.sl z (strs l) c] (.str (Lib.join l [44, 32])) := by
 have hL := wa0 l
 refine xd0 0 22 [.tmp 2] Tryz.func76 rfl rfl rfl (by simp) ?_
 intro s ⟨a0, hz⟩
 clear hz
 repeat' (first|refine nv ?_|(with_reducible first|refine gG ?_ ?_|(refine And.intro (fun h => ?_) (fun h => ?_)) <;> try omega|refine andG ?_)|simp (disch := try exact discB) only [push_cast, simprocAttr, a0, hL])
 refine go_loop rfl (fun mz s' H' => ∃ k : Nat, k ≤ l.length ∧ mz = l.length - k ∧ H' = [] ∧ s' 0 = .sl z (strs l) c ∧ s' 3 = .str (cmK l k) ∧ s' 4 = .int .i64 k) (m := l.length) (by first|exact xb0|fail) (Weak.refl _ _) ⟨0, by omega, by omega, rfl, ?_⟩ ?_
 ·rw [kbx9]
  simp (disch := try exact discB) only [push_cast, simprocAttr, a0, hL]
 ·rintro mz s' H' ⟨k, hk, rfl, rfl, b0, b3, b4⟩
  have hb := qdw9 l hs k
  rcases Nat.lt_or_ge k l.length with hlt|hge
  ·obtain rfl := hz.resolve_left (by intro h; rw [h] at hlt; simp at hlt)
   have e1 := vd0 l k hlt
   have hx := hs _ (ve0 [] hlt)
   by_cases h0 : k = 0
   ·subst h0
    have h1 := wdg9 l hlt
    rw [kbx9] at b3
    generalize l.getD 0 [] = x at *
    repeat' (first|refine nv ?_|(with_reducible first|refine gG ?_ ?_|(refine And.intro (fun h => ?_) (fun h => ?_)) <;> try omega|refine andG ?_)|simp (disch := try exact discB) only [push_cast, simprocAttr, b0, b3, b4, e1, hL])
    refine zb0 (l.length - (0 + 1)) (by omega) (by first|exact xb0|fail) ⟨0 + 1, by omega, rfl, rfl, ?_⟩
    simp (disch := try exact discB) only [push_cast, simprocAttr, b0, b3, b4, e1, hL]
    rw [h1]
   ·have h1 := vcF9 l k (by omega) hlt
    have h0' : (0 : Int) < k := by omega
    generalize l.getD k [] = x at *
    repeat' (first|refine nv ?_|(with_reducible first|refine gG ?_ ?_|(refine And.intro (fun h => ?_) (fun h => ?_)) <;> try omega|refine andG ?_)|simp (disch := try exact discB) only [push_cast, simprocAttr, b0, b3, b4, e1, hL, h0'])
    refine zb0 (l.length - (k + 1)) (by omega) (by first|exact xb0|fail) ⟨k + 1, by omega, rfl, rfl, ?_⟩
    simp (disch := try exact discB) only [push_cast, simprocAttr, b0, b3, b4, e1, hL, h0']
    rw [h1]
  ·obtain rfl : k = l.length := by omega
   repeat' (first|refine nv ?_|(with_reducible first|refine gG ?_ ?_|(refine And.intro (fun h => ?_) (fun h => ?_)) <;> try omega|refine andG ?_)|simp (disch := try exact discB) only [push_cast, simprocAttr, b0, b3, b4, hL])
   simp [cmK]
theorem kaM9 (a b : Bs) : lnL [a, b] = a ++ ([32] ++ b) ++ [59, 10] := by
 rw [lnL, Lib.join_cons]; simp [Lib.joinTail]
theorem zdw9 (x : GS) (hx : x.Ok) (hv : x.V) : PC Tryz.prog G0 26 [.agg x.A] (.str (wm0 x)) := by
 obtain ⟨l1, l2, l3, l4, l5, l6⟩ := hv.cnts
 obtain ⟨n1, n2, n3, n4⟩ := hv.len
 have c1 := wbn9 x.zi x.ins x.ci hx.i (by omega) n1
 have c2 := wbn9 x.zo x.outs x.co hx.o (by omega) n2
 have c3 := wbn9 x.zs x.sts x.cs hx.s (by omega) n3
 have b1 := xk0 n1 16 l1
 have b2 := xk0 n2 16 l2
 have b3 := xk0 n3 64 l3
 have hi1 : ∀ p, idsE p (kc0 x.rows) = true := fun p => xf0 p _
 have hi2 : ∀ p, idsE p (strs x.ins) = true := fun p => xa0 p _
 have hi3 : ∀ p, idsE p (strs x.outs) = true := fun p => xa0 p _
 have hi4 : ∀ p, idsE p (strs x.sts) = true := fun p => xa0 p _
 unfold wm0
 rw [kaM9, kaM9, kaM9, kaM9]
 unfold GS.A kMac kIns xn0 kSts
 generalize Lib.join x.ins [44, 32] = J1 at *
 generalize Lib.join x.outs [44, 32] = J2 at *
 generalize Lib.join x.sts [44, 32] = J3 at *
 refine xd0 0 22 [.tmp 2] Tryz.func26 rfl rfl rfl (by simp) ?_
 intro s ⟨a0, hz⟩
 clear hz
 repeat' (first|refine nv ?_|(with_reducible first|refine gG ?_ ?_|(refine And.intro (fun h => ?_) (fun h => ?_)) <;> try omega|refine andG ?_)|refine cp c1 ?_ (hi := by (simp [idsL, idsE, AV.ids, hi1, hi2, hi3, hi4]))|refine cp c2 ?_ (hi := by (simp [idsL, idsE, AV.ids, hi1, hi2, hi3, hi4]))|refine cp c3 ?_ (hi := by (simp [idsL, idsE, AV.ids, hi1, hi2, hi3, hi4]))|simp (disch := try exact discB) only [push_cast, simprocAttr, a0])
 simp [List.append_assoc]
def edL (x : GS) (s i : Nat) (e : Edg) : List Bs := if e.1 = -1 then [] else [eLn x s i e]
def zau9 (x : GS) (s k : Nat) : List Bs := (List.range k).flatMap fun i => edL x s i ((x.row s).getD i (0, 0))
def linesL (x : GS) (s : Nat) : List Bs := (List.range s).flatMap fun s => zau9 x s (x.row s).length
theorem qaF9 (x : GS) (s : Nat) : zau9 x s 0 = [] := rfl
theorem vbn9 (x : GS) : linesL x 0 = [] := rfl
theorem zaF9 (x : GS) (s k : Nat) : zau9 x s (k + 1) = zau9 x s k ++ edL x s k ((x.row s).getD k (0, 0)) := by rw [zau9, List.range_succ, List.flatMap_append]; simp [zau9]
theorem xau9 (x : GS) (s : Nat) : linesL x (s + 1) = linesL x s ++ zau9 x s (x.row s).length := by rw [linesL, List.range_succ, List.flatMap_append]; simp [linesL]
theorem wau9 (x : GS) (s : Nat) : ∀ k, (zau9 x s k).length ≤ k
 | 0 => by simp [qaF9]
 | k + 1 => by
  have := wau9 x s k
  rw [zaF9, List.length_append]
  have : (edL x s k ((x.row s).getD k (0, 0))).length ≤ 1 := by unfold edL; split <;> simp
  omega
theorem wae9 {x : GS} (h : x.V) : ∀ s, s ≤ x.rows.length → (linesL x s).length ≤ s * 16
 | 0, _ => by simp [vbn9]
 | s + 1, hs => by
  have h1 := wae9 h s (by omega)
  have h2 := wau9 x s (x.row s).length
  have h3 := (zd0 h.m).2.2.2.1 s (by omega)
  have h4 := (zd0 h.m).1.2
  have h5 : (x.row s).length ≤ 16 := by unfold GS.row; omega
  rw [xau9, List.length_append]; omega
theorem xdw9 (a b c e : Bs) : lnL [a, b, [47], c, [45, 62], e] = a ++ [32] ++ b ++ [32, 47, 32] ++ c ++ [32, 45, 62, 32] ++ e ++ [59, 10] := by
 rw [lnL, Lib.join_cons]; simp [Lib.joinTail, List.append_assoc]
def lS (x : GS) (s k : Nat) : List Bs := linesL x s ++ zau9 x s k
theorem vdg9 (x : GS) (s : Nat) : linesL x s = lS x s 0 := by simp [lS, qaF9]
theorem wdw9 (x : GS) (s : Nat) : lS x s (x.row s).length = linesL x (s + 1) := by rw [lS, xau9]
theorem kdg9 (x : GS) (s k : Nat) : lS x s (k + 1) = lS x s k ++ edL x s k ((x.row s).getD k (0, 0)) := by rw [lS, lS, zaF9, List.append_assoc]
theorem vdw9 {x : GS} (h : x.V) (s k : Nat) (hs : s < x.rows.length) (hk : k ≤ (x.row s).length) : (lS x s k).length ≤ 100000 := by
 have h1 := wae9 h s (by omega)
 have h2 := wau9 x s k
 have h3 := (zd0 h.m).2.2.2.1 s hs
 have h4 := (zd0 h.m).1.2
 have h6 := (zd0 h.m).2.2.1.2
 have h5 : (x.row s).length ≤ 16 := by unfold GS.row; omega
 rw [lS, List.length_append]; omega
theorem qdh9 (x : GS) (hx : x.Ok) (hv : x.V) : PC Tryz.prog G0 25 [.agg x.A] (.sl 1 (strs (linesL x x.rows.length)) none) := by
 obtain ⟨l1, l2, l3, l4, l5, l6⟩ := hv.cnts
 obtain ⟨n1, n2, n3, n4⟩ := hv.len
 have hm := zd0 hv.m
 have hz0 : x.zr = 1 := hx.r.resolve_left (by intro e; have := hm.2.2.1.1; rw [e] at this; simp at this)
 have hz1 : x.zi = 1 := hx.i.resolve_left (by intro e; rw [e] at l4; simp at l4)
 have hz2 : x.zo = 1 := hx.o.resolve_left (by intro e; rw [e] at l5; simp at l5)
 have hz3 : x.zs = 1 := hx.s.resolve_left (by intro e; rw [e] at l6; simp at l6)
 have hid := fun p => zE0 p x
 have hi1 : ∀ p, idsE p (kc0 x.rows) = true := fun p => xf0 p _
 have hi2 : ∀ p, idsE p (strs x.ins) = true := fun p => xa0 p _
 have hi3 : ∀ p, idsE p (strs x.outs) = true := fun p => xa0 p _
 have hi4 : ∀ p, idsE p (strs x.sts) = true := fun p => xa0 p _
 have hlR := wu0 x.rows
 have hls := wa0 x.sts
 have hli := wa0 x.ins
 have hlo := wa0 x.outs
 have hcs := hv.cs
 have hci := hv.ci
 have hco := hv.co
 have hii := hm.1
 obtain ⟨I, hI⟩ : ∃ I : Nat, x.i = I := ⟨x.i.toNat, by omega⟩
 unfold GS.A at *
 rw [hz0, hz1, hz2, hz3, hI]
 rw [hI] at hii hci
 refine xd0 1 67 [.tmp 2] Tryz.func25 rfl rfl rfl (by simp) ?_
 intro s ⟨a0, hz⟩
 clear hz
 repeat' (first|refine nv ?_|(with_reducible first|refine gG ?_ ?_|(refine And.intro (fun h => ?_) (fun h => ?_)) <;> try omega|refine andG ?_)|simp (disch := try exact discB) only [push_cast, simprocAttr, a0, hlR])
 refine zG0 (by first|exact xb0|fail) (zU0 (t := 3) (z := 0) (sz := 1) (ty := 9) rfl) ?_
 refine go_loop rfl (fun mz s' H' => ∃ s : Nat, s ≤ x.rows.length ∧ mz = x.rows.length - s ∧ H' = [.row 7 27 [[.str x.nm, .int .i64 (I : Int), .int .i64 x.o, .sl 1 (kc0 x.rows) x.cr, .sl 1 (strs x.ins) x.ci, .sl 1 (strs x.outs) x.co, .sl 1 (strs x.sts) x.cs]], .row 1 9 (strs (linesL x s))] ∧ s' 1 = .ptr 0 0 0 1 ∧ s' 3 = .own 1 (linesL x s).length (linesL x s).length none ∧ s' 4 = .int .i64 s) (m := x.rows.length) (by first|exact xb0|fail) (Weak.refl _ _) ⟨0, by omega, by omega, rfl, ?_⟩ ?_
 ·simp (disch := try exact discB) only [push_cast, simprocAttr, a0, hlR]
  all_goals rfl
 ·rintro mz s' H' ⟨s, hs, rfl, rfl, b1, b3, b4⟩
  rcases Nat.lt_or_ge s x.rows.length with hlt|hge
  ·have e1 := xr0 x.rows s hlt
   have hw := hm.2.2.2.1 s hlt
   have hfit := hm.2.2.2.2 s hlt
   have hRl := wdw9 x s
   have hRs := kdg9 x s
   have hRb := fun k hk => vdw9 hv s k hlt hk
   rw [vdg9 x s] at b3 ⊢
   unfold GS.row at hRl hRs hRb
   generalize (x.rows.getD s ([], none)).2 = cr at *
   generalize (x.rows.getD s ([], none)).1 = r at *
   have hrl := vi0 r
   have hrI : r.length = I := by omega
   repeat' (first|refine nv ?_|(with_reducible first|refine gG ?_ ?_|(refine And.intro (fun h => ?_) (fun h => ?_)) <;> try omega|refine andG ?_)|simp (disch := try exact discB) only [push_cast, simprocAttr, b1, b3, b4, e1, hlR, hrl])
   refine go_loop rfl (fun mz s' H' => ∃ k : Nat, k ≤ r.length ∧ mz = r.length - k ∧ H' = [.row 7 27 [[.str x.nm, .int .i64 (I : Int), .int .i64 x.o, .sl 1 (kc0 x.rows) x.cr, .sl 1 (strs x.ins) x.ci, .sl 1 (strs x.outs) x.co, .sl 1 (strs x.sts) x.cs]], .row 1 9 (strs (lS x s k))] ∧ s' 1 = .ptr 0 0 0 1 ∧ s' 3 = .own 1 (lS x s k).length (lS x s k).length none ∧ s' 4 = .int .i64 s ∧ s' 5 = .int .i64 k) (m := r.length) (by first|exact xb0|fail) (Weak.refl _ _) ⟨0, by omega, by omega, rfl, ?_⟩ ?_
   ·simp (disch := try exact discB) only [push_cast, simprocAttr, b1, b3, b4, e1, hlR, hrl]
   ·clear b1 b3 b4
    rintro mz s' H' ⟨k, hk, rfl, rfl, b1, b3, b4, b5⟩
    rcases Nat.lt_or_ge k r.length with hlt3|hge3
    ·have e3 := zp0 r k hlt3
     have hsc := hRs k
     have hb := hRb k (by omega)
     have hf1 := fitE_iff.1 (List.all_eq_true.1 hfit _ (ve0 (0, 0) hlt3))
     have hlk := wa0 (lS x s k)
     have hkI : (k : Int) < I := by omega
     generalize r.getD k (0, 0) = e at *
     obtain ⟨t1, o1⟩ := e
     simp only [eA] at e3
     simp only [Prod.mk.injEq] at hf1
     by_cases ht : t1 = -1
     ·subst ht
      rw [edL, if_pos rfl, List.append_nil] at hsc
      rw [← hsc]
      repeat' (first|refine nv ?_|(with_reducible first|refine gG ?_ ?_|(refine And.intro (fun h => ?_) (fun h => ?_)) <;> try omega|refine andG ?_)|simp (disch := try exact discB) only [push_cast, simprocAttr, b1, b3, b4, b5, e3, hrl, e1, hlR, hkI])
      refine wg0 (r.length - (k + 1)) 2 (by omega) (by first|exact xb0|fail) (by omega) (by simp) (by simp [Blk.below, idsE, idsL, AV.ids, hid, hi1, hi2, hi3, hi4]) ⟨k + 1, by omega, rfl, rfl, ?_⟩
      simp (disch := try exact discB) only [push_cast, simprocAttr, b1, b3, b4, b5, e3, hrl, e1, hlR, hkI]
      simp [zk0, AV.ids, idsL, hi1, wl0]
      rw [hsc]
     ·rcases hf1 with ⟨q, _⟩|⟨q1, q2, q3, q4⟩
      ·exact absurd q ht
      obtain ⟨tn, rfl⟩ : ∃ n : Nat, t1 = n := ⟨t1.toNat, by omega⟩
      obtain ⟨on, rfl⟩ : ∃ n : Nat, o1 = n := ⟨o1.toNat, by omega⟩
      rw [edL, if_neg ht, eLn, if_neg ht, Int.toNat_natCast, Int.toNat_natCast, xdw9] at hsc
      have g1 := vd0 x.sts s (by omega)
      have g2 := vd0 x.ins k (by omega)
      have g3 := vd0 x.outs on (by omega)
      have g4 := vd0 x.sts tn (by omega)
      have m1 := vD0 n3 s
      have m2 := vD0 n1 k
      have m3 := vD0 n2 on
      have m4 := vD0 n3 tn
      have hge0 : (0 : Int) ≤ tn := by omega
      generalize x.sts.getD s [] = S1 at *
      generalize x.ins.getD k [] = S2 at *
      generalize x.outs.getD on [] = S3 at *
      generalize x.sts.getD tn [] = S4 at *
      have hss := kX0 (lS x s k) (S1 ++ [32] ++ S2 ++ [32, 47, 32] ++ S3 ++ [32, 45, 62, 32] ++ S4 ++ [59, 10])
      rw [← hsc] at hss
      have hsl : (lS x s (k + 1)).length = (lS x s k).length + 1 := by rw [hsc]; simp
      repeat' (first|refine nv ?_|(with_reducible first|refine gG ?_ ?_|(refine And.intro (fun h => ?_) (fun h => ?_)) <;> try omega|refine andG ?_)|simp (disch := try exact discB) only [push_cast, simprocAttr, b1, b3, b4, b5, e3, hrl, e1, hlR, hkI, g1, g2, g3, g4, hls, hli, hlo, hge0, hlk])
      rw [hss]
      refine wg0 (r.length - (k + 1)) 2 (by omega) (by first|exact xb0|fail) (by omega) (by simp) (by simp [Blk.below, idsE, idsL, AV.ids, hid, hi1, hi2, hi3, hi4]) ⟨k + 1, by omega, rfl, rfl, ?_⟩
      simp (disch := try exact discB) only [push_cast, simprocAttr, b1, b3, b4, b5, e3, hrl, e1, hlR, hkI, g1, g2, g3, g4, hls, hli, hlo, hge0, hlk]
      simp [zk0, AV.ids, idsL, hi1, wl0, hsl]
    ·obtain rfl : k = r.length := by omega
     have hkI : ¬ (r.length : Int) < I := by omega
     repeat' (first|refine nv ?_|(with_reducible first|refine gG ?_ ?_|(refine And.intro (fun h => ?_) (fun h => ?_)) <;> try omega|refine andG ?_)|simp (disch := try exact discB) only [push_cast, simprocAttr, b1, b3, b4, b5, hrl, hkI])
     rw [hRl]
     refine zb0 (x.rows.length - (s + 1)) (by omega) (by first|exact xb0|fail) ⟨s + 1, by omega, rfl, rfl, ?_⟩
     simp (disch := try exact discB) only [push_cast, simprocAttr, b1, b3, b4, b5, hrl, hkI]
     rw [hRl]
  ·obtain rfl : s = x.rows.length := by omega
   repeat' (first|refine nv ?_|(with_reducible first|refine gG ?_ ?_|(refine And.intro (fun h => ?_) (fun h => ?_)) <;> try omega|refine andG ?_)|simp (disch := try exact discB) only [push_cast, simprocAttr, b1, b3, b4, hlR])
end Go.Proofs
namespace Go.Proofs
open Go Go.V
set_option linter.unusedVariables false
set_option linter.unusedSimpArgs false
set_option maxHeartbeats 0
set_option maxRecDepth 100000
def txK (x : GS) (k : Nat) : Bs := wm0 x ++ ((linesL x x.rows.length).take k).flatten
theorem kcF9 {x : GS} (hv : x.V) : (wm0 x).length ≤ 2000 := by
 obtain ⟨l1, l2, l3, l4, l5, l6⟩ := hv.cnts
 obtain ⟨n1, n2, n3, n4⟩ := hv.len
 have b1 := xk0 n1 16 l1
 have b2 := xk0 n2 16 l2
 have b3 := xk0 n3 64 l3
 have c0 := zI0 kMac x.nm 16 (by decide) n4
 have c1 := zI0 kIns (Lib.join x.ins [44, 32]) 288 (by decide) b1
 have c2 := zI0 xn0 (Lib.join x.outs [44, 32]) 288 (by decide) b2
 have c3 := zI0 kSts (Lib.join x.sts [44, 32]) 1152 (by decide) b3
 simp only [wm0, List.length_append]; omega
end Go.Proofs
