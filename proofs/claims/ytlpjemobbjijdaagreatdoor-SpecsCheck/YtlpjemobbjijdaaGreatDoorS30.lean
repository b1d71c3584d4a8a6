import Derived.Test.YtlpjemobbjijdaaGreatDoorS28
namespace Go.Proofs
open Go Go.V
set_option linter.unusedVariables false
set_option linter.unusedSimpArgs false
set_option maxHeartbeats 0
set_option maxRecDepth 100000
def cmK (l : List Bs) (k : Nat) : Bs := Lib.join (l.take k) [44, 32]
theorem xbq9 (l : List Bs) : cmK l 0 = [] := by simp [cmK, Lib.join_nil]
theorem wcR9 (l : List Bs) (h : 0 < l.length) : cmK l 1 = l.getD 0 [] := by
 rw [cmK, wu0 l 0 h, List.take_zero, List.nil_append, Lib.join_one]
theorem zcu9 (l : List Bs) (k : Nat) (h0 : 0 < k) (h : k < l.length) : cmK l (k + 1) = cmK l k ++ [44, 32] ++ l.getD k [] := by
 rw [cmK, wu0 l k h, zaT9 _ _ _ (by intro e; have := congrArg List.length e; rw [List.length_take, List.length_nil] at this; omega), cmK, List.append_assoc]
theorem xdg9 (l : List Bs) (h : ∀ s ∈ l, s.length ≤ 16) (k : Nat) : (cmK l k).length ≤ k * 18 := Nat.le_trans (kah9 16 [44, 32] _ fun s hs => h s (List.mem_of_mem_take hs)) (Nat.mul_le_mul_right _ (by simp; omega))
theorem vbg9 (z : Nat) (l : List Bs) (c : Option Nat) (hz : l = [] ∨ z = 1) (hl : l.length ≤ 1000) (hs : ∀ s ∈ l, s.length ≤ 16) : PC Tryz.prog G0 76 [.sl z (strs l) c] (.str (Lib.join l [44, 32])) := by
 have hL := ka0 l
 refine kb0 0 22 [.tmp 2] Tryz.func76 rfl rfl rfl (by simp) ?_
 intro s ⟨a0, hz⟩
 clear hz
 repeat' (first|refine nav ?_|(refine g0_ ?_; refine goD ?_)|(with_reducible refine gG ?_ ?_)|((with_reducible refine And.intro (fun h => ?_) (fun h => ?_)) <;> try (exfalso; omega))|(with_reducible refine andG ?_)|fail|simp (disch := (first|exact discB|fail)) only [push_cast, simprocAttr, a0, hL])
 refine go_loop rfl (fun mz s' H' => ∃ k : Nat, k ≤ l.length ∧ mz = l.length - k ∧ H' = [] ∧ s' 0 = .sl z (strs l) c ∧ s' 3 = .str (cmK l k) ∧ s' 4 = .int .i64 k) (m := l.length) (by first|exact vb0|fail) (Weak.refl _ _) ⟨0, by omega, by omega, rfl, ?_⟩ ?_
 ·rw [xbq9]
  simp (disch := (first|exact discB|fail)) only [push_cast, simprocAttr, a0, hL]
 ·rintro mz s' H' ⟨k, hk, rfl, rfl, b0, b3, b4⟩
  have hb := xdg9 l hs k
  rcases Nat.lt_or_ge k l.length with hlt|hge
  ·obtain rfl := hz.resolve_left (by intro h; rw [h] at hlt; simp at hlt)
   have e1 := zd0 l k hlt
   have hx := hs _ (wj0 [] hlt)
   by_cases h0 : k = 0
   ·subst h0
    have h1 := wcR9 l hlt
    rw [xbq9] at b3
    generalize l.getD 0 [] = x at *
    repeat' (first|refine nav ?_|(refine g0_ ?_; refine goD ?_)|(with_reducible refine gG ?_ ?_)|((with_reducible refine And.intro (fun h => ?_) (fun h => ?_)) <;> try (exfalso; omega))|(with_reducible refine andG ?_)|fail|simp (disch := (first|exact discB|fail)) only [push_cast, simprocAttr, b0, b3, b4, e1, hL])
    refine va0 (l.length - (0 + 1)) (by omega) (by first|exact vb0|fail) ⟨0 + 1, by omega, rfl, rfl, ?_⟩
    simp (disch := (first|exact discB|fail)) only [push_cast, simprocAttr, b0, b3, b4, e1, hL]
    rw [h1]
   ·have h1 := zcu9 l k (by omega) hlt
    have h0' : (0 : Int) < k := by omega
    generalize l.getD k [] = x at *
    repeat' (first|refine nav ?_|(refine g0_ ?_; refine goD ?_)|(with_reducible refine gG ?_ ?_)|((with_reducible refine And.intro (fun h => ?_) (fun h => ?_)) <;> try (exfalso; omega))|(with_reducible refine andG ?_)|fail|simp (disch := (first|exact discB|fail)) only [push_cast, simprocAttr, b0, b3, b4, e1, hL, h0'])
    refine va0 (l.length - (k + 1)) (by omega) (by first|exact vb0|fail) ⟨k + 1, by omega, rfl, rfl, ?_⟩
    simp (disch := (first|exact discB|fail)) only [push_cast, simprocAttr, b0, b3, b4, e1, hL, h0']
    rw [h1]
  ·obtain rfl : k = l.length := by omega
   repeat' (first|refine nav ?_|(refine g0_ ?_; refine goD ?_)|(with_reducible refine gG ?_ ?_)|((with_reducible refine And.intro (fun h => ?_) (fun h => ?_)) <;> try (exfalso; omega))|(with_reducible refine andG ?_)|fail|simp (disch := (first|exact discB|fail)) only [push_cast, simprocAttr, b0, b3, b4, hL])
   simp [cmK]
theorem xaJ9 (a b : Bs) : lnL [a, b] = a ++ ([32] ++ b) ++ [59, 10] := by
 rw [lnL, Lib.join_cons]; simp [Lib.joinTail]
theorem wdg9 (x : GS) (hx : x.Ok) (hv : x.V) : PC Tryz.prog G0 26 [.agg x.A] (.str (zab9 x)) := by
 obtain ⟨l1, l2, l3, l4, l5, l6⟩ := hv.cnts
 obtain ⟨n1, n2, n3, n4⟩ := hv.len
 have c1 := vbg9 x.zi x.ins x.ci hx.i (by omega) n1
 have c2 := vbg9 x.zo x.outs x.co hx.o (by omega) n2
 have c3 := vbg9 x.zs x.sts x.cs hx.s (by omega) n3
 have b1 := qk0 n1 16 l1
 have b2 := qk0 n2 16 l2
 have b3 := qk0 n3 64 l3
 have hi1 : ∀ p, idsE p (ve0 x.rows) = true := fun p => xf0 p _
 have hi2 : ∀ p, idsE p (strs x.ins) = true := fun p => xa0 p _
 have hi3 : ∀ p, idsE p (strs x.outs) = true := fun p => xa0 p _
 have hi4 : ∀ p, idsE p (strs x.sts) = true := fun p => xa0 p _
 unfold zab9
 rw [xaJ9, xaJ9, xaJ9, xaJ9]
 unfold GS.A kMac kIns zu0 kSts
 generalize Lib.join x.ins [44, 32] = J1 at *
 generalize Lib.join x.outs [44, 32] = J2 at *
 generalize Lib.join x.sts [44, 32] = J3 at *
 refine kb0 0 22 [.tmp 2] Tryz.func26 rfl rfl rfl (by simp) ?_
 intro s ⟨a0, hz⟩
 clear hz
 repeat' (first|refine nav ?_|(refine g0_ ?_; refine goD ?_)|(with_reducible refine gG ?_ ?_)|((with_reducible refine And.intro (fun h => ?_) (fun h => ?_)) <;> try (exfalso; omega))|(with_reducible refine andG ?_)|(first|(refine ⟨_, _, qa0 (c1) (by (simp [idsL, idsE, AV.ids, hi1, hi2, hi3, hi4])) _, ?_⟩)|(refine ⟨_, qa0 (c1) (by (simp [idsL, idsE, AV.ids, hi1, hi2, hi3, hi4])) _, ?_⟩)|(refine ⟨_, fun _ => qa0 (c1) (by (simp [idsL, idsE, AV.ids, hi1, hi2, hi3, hi4])) _, ?_⟩)|(refine ⟨_, _, qa0 (c2) (by (simp [idsL, idsE, AV.ids, hi1, hi2, hi3, hi4])) _, ?_⟩)|(refine ⟨_, qa0 (c2) (by (simp [idsL, idsE, AV.ids, hi1, hi2, hi3, hi4])) _, ?_⟩)|(refine ⟨_, fun _ => qa0 (c2) (by (simp [idsL, idsE, AV.ids, hi1, hi2, hi3, hi4])) _, ?_⟩)|(refine ⟨_, _, qa0 (c3) (by (simp [idsL, idsE, AV.ids, hi1, hi2, hi3, hi4])) _, ?_⟩)|(refine ⟨_, qa0 (c3) (by (simp [idsL, idsE, AV.ids, hi1, hi2, hi3, hi4])) _, ?_⟩)|(refine ⟨_, fun _ => qa0 (c3) (by (simp [idsL, idsE, AV.ids, hi1, hi2, hi3, hi4])) _, ?_⟩))|simp (disch := (first|exact discB|fail)) only [push_cast, simprocAttr, a0])
 simp [List.append_assoc]
def edL (x : GS) (s i : Nat) (e : Edg) : List Bs := if e.1 = -1 then [] else [eLn x s i e]
def zav9 (x : GS) (s k : Nat) : List Bs := (List.range k).flatMap fun i => edL x s i ((x.row s).getD i (0, 0))
def zk0 (x : GS) (s : Nat) : List Bs := (List.range s).flatMap fun s => zav9 x s (x.row s).length
theorem qaC9 (x : GS) (s : Nat) : zav9 x s 0 = [] := rfl
theorem kbg9 (x : GS) : zk0 x 0 = [] := rfl
theorem wab9 (x : GS) (s k : Nat) : zav9 x s (k + 1) = zav9 x s k ++ edL x s k ((x.row s).getD k (0, 0)) := by rw [zav9, List.range_succ, List.flatMap_append]; simp [zav9]
theorem qO0 (x : GS) (s : Nat) : zk0 x (s + 1) = zk0 x s ++ zav9 x s (x.row s).length := by rw [zk0, List.range_succ, List.flatMap_append]; simp [zk0]
theorem zaC9 (x : GS) (s : Nat) : ∀ k, (zav9 x s k).flatten = rowT x s k
 | 0 => rfl
 | k + 1 => by
  rw [wab9, kar9, List.flatten_append, zaC9 x s k]
  congr 1
  unfold edL eLn
  split <;> simp
theorem zO0 (x : GS) : ∀ s, (zk0 x s).flatten = qaJ9 x s
 | 0 => rfl
 | s + 1 => by rw [qO0, xab9, List.flatten_append, zO0 x s, zaC9]
theorem xas9 (x : GS) (s : Nat) : ∀ k, (zav9 x s k).length ≤ k
 | 0 => by simp [qaC9]
 | k + 1 => by
  have := xas9 x s k
  rw [wab9, List.length_append]
  have : (edL x s k ((x.row s).getD k (0, 0))).length ≤ 1 := by unfold edL; split <;> simp
  omega
theorem vab9 {x : GS} (h : x.V) : ∀ s, s ≤ x.rows.length → (zk0 x s).length ≤ s * 16
 | 0, _ => by simp [kbg9]
 | s + 1, hs => by
  have h1 := vab9 h s (by omega)
  have h2 := xas9 x s (x.row s).length
  have h3 := (xe0 h.m).2.2.2.1 s (by omega)
  have h4 := (xe0 h.m).1.2
  have h5 : (x.row s).length ≤ 16 := by unfold GS.row; omega
  rw [qO0, List.length_append]; omega
theorem vdg9 (a b c e : Bs) : lnL [a, b, [47], c, [45, 62], e] = a ++ [32] ++ b ++ [32, 47, 32] ++ c ++ [32, 45, 62, 32] ++ e ++ [59, 10] := by
 rw [lnL, Lib.join_cons]; simp [Lib.joinTail, List.append_assoc]
def lS (x : GS) (s k : Nat) : List Bs := zk0 x s ++ zav9 x s k
theorem vcR9 (x : GS) (s : Nat) : zk0 x s = lS x s 0 := by simp [lS, qaC9]
theorem kdg9 (x : GS) (s : Nat) : lS x s (x.row s).length = zk0 x (s + 1) := by rw [lS, qO0]
theorem kcR9 (x : GS) (s k : Nat) : lS x s (k + 1) = lS x s k ++ edL x s k ((x.row s).getD k (0, 0)) := by rw [lS, lS, wab9, List.append_assoc]
theorem qdh9 {x : GS} (h : x.V) (s k : Nat) (hs : s < x.rows.length) (hk : k ≤ (x.row s).length) : (lS x s k).length ≤ 100000 := by
 have h1 := vab9 h s (by omega)
 have h2 := xas9 x s k
 have h3 := (xe0 h.m).2.2.2.1 s hs
 have h4 := (xe0 h.m).1.2
 have h6 := (xe0 h.m).2.2.1.2
 have h5 : (x.row s).length ≤ 16 := by unfold GS.row; omega
 rw [lS, List.length_append]; omega
theorem qcS9 (x : GS) (hx : x.Ok) (hv : x.V) : PC Tryz.prog G0 25 [.agg x.A] (.sl 1 (strs (zk0 x x.rows.length)) none) := by
 obtain ⟨l1, l2, l3, l4, l5, l6⟩ := hv.cnts
 obtain ⟨n1, n2, n3, n4⟩ := hv.len
 have hm := xe0 hv.m
 have hz0 : x.zr = 1 := hx.r.resolve_left (by intro e; have := hm.2.2.1.1; rw [e] at this; simp at this)
 have hz1 : x.zi = 1 := hx.i.resolve_left (by intro e; rw [e] at l4; simp at l4)
 have hz2 : x.zo = 1 := hx.o.resolve_left (by intro e; rw [e] at l5; simp at l5)
 have hz3 : x.zs = 1 := hx.s.resolve_left (by intro e; rw [e] at l6; simp at l6)
 have hid := fun p => kz0 p x
 have hi1 : ∀ p, idsE p (ve0 x.rows) = true := fun p => xf0 p _
 have hi2 : ∀ p, idsE p (strs x.ins) = true := fun p => xa0 p _
 have hi3 : ∀ p, idsE p (strs x.outs) = true := fun p => xa0 p _
 have hi4 : ∀ p, idsE p (strs x.sts) = true := fun p => xa0 p _
 have hlR := zs0 x.rows
 have hls := ka0 x.sts
 have hli := ka0 x.ins
 have hlo := ka0 x.outs
 have hcs := hv.cs
 have hci := hv.ci
 have hco := hv.co
 have hii := hm.1
 obtain ⟨I, hI⟩ : ∃ I : Nat, x.i = I := ⟨x.i.toNat, by omega⟩
 unfold GS.A at *
 rw [hz0, hz1, hz2, hz3, hI]
 rw [hI] at hii hci
 refine kb0 1 67 [.tmp 2] Tryz.func25 rfl rfl rfl (by simp) ?_
 intro s ⟨a0, hz⟩
 clear hz
 repeat' (first|refine nav ?_|(refine g0_ ?_; refine goD ?_)|(with_reducible refine gG ?_ ?_)|((with_reducible refine And.intro (fun h => ?_) (fun h => ?_)) <;> try (exfalso; omega))|(with_reducible refine andG ?_)|fail|simp (disch := (first|exact discB|fail)) only [push_cast, simprocAttr, a0, hlR])
 refine kal9 (by first|exact vb0|fail) (zR0 (t := 3) (z := 0) (sz := 1) (ty := 9) rfl) ?_
 refine go_loop rfl (fun mz s' H' => ∃ s : Nat, s ≤ x.rows.length ∧ mz = x.rows.length - s ∧ H' = [.row 7 27 [[.str x.nm, .int .i64 (I : Int), .int .i64 x.o, .sl 1 (ve0 x.rows) x.cr, .sl 1 (strs x.ins) x.ci, .sl 1 (strs x.outs) x.co, .sl 1 (strs x.sts) x.cs]], .row 1 9 (strs (zk0 x s))] ∧ s' 1 = .ptr 0 0 0 1 ∧ s' 3 = .own 1 (zk0 x s).length (zk0 x s).length none ∧ s' 4 = .int .i64 s) (m := x.rows.length) (by first|exact vb0|fail) (Weak.refl _ _) ⟨0, by omega, by omega, rfl, ?_⟩ ?_
 ·simp (disch := (first|exact discB|fail)) only [push_cast, simprocAttr, a0, hlR]
  all_goals rfl
 ·rintro mz s' H' ⟨s, hs, rfl, rfl, b1, b3, b4⟩
  rcases Nat.lt_or_ge s x.rows.length with hlt|hge
  ·have e1 := xp0 x.rows s hlt
   have hw := hm.2.2.2.1 s hlt
   have hfit := hm.2.2.2.2 s hlt
   have hRl := kdg9 x s
   have hRs := kcR9 x s
   have hRb := fun k hk => qdh9 hv s k hlt hk
   rw [vcR9 x s] at b3 ⊢
   unfold GS.row at hRl hRs hRb
   generalize (x.rows.getD s ([], none)).2 = cr at *
   generalize (x.rows.getD s ([], none)).1 = r at *
   have hrl := vj0 r
   have hrI : r.length = I := by omega
   repeat' (first|refine nav ?_|(refine g0_ ?_; refine goD ?_)|(with_reducible refine gG ?_ ?_)|((with_reducible refine And.intro (fun h => ?_) (fun h => ?_)) <;> try (exfalso; omega))|(with_reducible refine andG ?_)|fail|simp (disch := (first|exact discB|fail)) only [push_cast, simprocAttr, b1, b3, b4, e1, hlR, hrl])
   refine go_loop rfl (fun mz s' H' => ∃ k : Nat, k ≤ r.length ∧ mz = r.length - k ∧ H' = [.row 7 27 [[.str x.nm, .int .i64 (I : Int), .int .i64 x.o, .sl 1 (ve0 x.rows) x.cr, .sl 1 (strs x.ins) x.ci, .sl 1 (strs x.outs) x.co, .sl 1 (strs x.sts) x.cs]], .row 1 9 (strs (lS x s k))] ∧ s' 1 = .ptr 0 0 0 1 ∧ s' 3 = .own 1 (lS x s k).length (lS x s k).length none ∧ s' 4 = .int .i64 s ∧ s' 5 = .int .i64 k) (m := r.length) (by first|exact vb0|fail) (Weak.refl _ _) ⟨0, by omega, by omega, rfl, ?_⟩ ?_
   ·simp (disch := (first|exact discB|fail)) only [push_cast, simprocAttr, b1, b3, b4, e1, hlR, hrl]
   ·clear b1 b3 b4
    rintro mz s' H' ⟨k, hk, rfl, rfl, b1, b3, b4, b5⟩
    rcases Nat.lt_or_ge k r.length with hlt3|hge3
    ·have e3 := xs0 r k hlt3
     have hsc := hRs k
     have hb := hRb k (by omega)
     have hf1 := fitE_iff.1 (List.all_eq_true.1 hfit _ (wj0 (0, 0) hlt3))
     have hlk := ka0 (lS x s k)
     have hkI : (k : Int) < I := by omega
     generalize r.getD k (0, 0) = e at *
     obtain ⟨t1, o1⟩ := e
     simp only [eA] at e3
     simp only [Prod.mk.injEq] at hf1
     by_cases ht : t1 = -1
     ·subst ht
      rw [edL, if_pos rfl, List.append_nil] at hsc
      rw [← hsc]
      repeat' (first|refine nav ?_|(refine g0_ ?_; refine goD ?_)|(with_reducible refine gG ?_ ?_)|((with_reducible refine And.intro (fun h => ?_) (fun h => ?_)) <;> try (exfalso; omega))|(with_reducible refine andG ?_)|fail|simp (disch := (first|exact discB|fail)) only [push_cast, simprocAttr, b1, b3, b4, b5, e3, hrl, e1, hlR, hkI])
      refine vd0 (r.length - (k + 1)) 2 (by omega) (by first|exact vb0|fail) (by omega) (by simp) (by simp [Blk.below, idsE, idsL, AV.ids, hid, hi1, hi2, hi3, hi4]) ⟨k + 1, by omega, rfl, rfl, ?_⟩
      simp (disch := (first|exact discB|fail)) only [push_cast, simprocAttr, b1, b3, b4, b5, e3, hrl, e1, hlR, hkI]
      simp [vm0, AV.ids, idsL, hi1, xk0]
      rw [hsc]
     ·rcases hf1 with ⟨q, _⟩|⟨q1, q2, q3, q4⟩
      ·exact absurd q ht
      obtain ⟨tn, rfl⟩ : ∃ n : Nat, t1 = n := ⟨t1.toNat, by omega⟩
      obtain ⟨on, rfl⟩ : ∃ n : Nat, o1 = n := ⟨o1.toNat, by omega⟩
      rw [edL, if_neg ht, eLn, if_neg ht, Int.toNat_natCast, Int.toNat_natCast, vdg9] at hsc
      have g1 := zd0 x.sts s (by omega)
      have g2 := zd0 x.ins k (by omega)
      have g3 := zd0 x.outs on (by omega)
      have g4 := zd0 x.sts tn (by omega)
      have m1 := qB0 n3 s
      have m2 := qB0 n1 k
      have m3 := qB0 n2 on
      have m4 := qB0 n3 tn
      have hge0 : (0 : Int) ≤ tn := by omega
      generalize x.sts.getD s [] = S1 at *
      generalize x.ins.getD k [] = S2 at *
      generalize x.outs.getD on [] = S3 at *
      generalize x.sts.getD tn [] = S4 at *
      have hss := qV0 (lS x s k) (S1 ++ [32] ++ S2 ++ [32, 47, 32] ++ S3 ++ [32, 45, 62, 32] ++ S4 ++ [59, 10])
      rw [← hsc] at hss
      have hsl : (lS x s (k + 1)).length = (lS x s k).length + 1 := by rw [hsc]; simp
      repeat' (first|refine nav ?_|(refine g0_ ?_; refine goD ?_)|(with_reducible refine gG ?_ ?_)|((with_reducible refine And.intro (fun h => ?_) (fun h => ?_)) <;> try (exfalso; omega))|(with_reducible refine andG ?_)|fail|simp (disch := (first|exact discB|fail)) only [push_cast, simprocAttr, b1, b3, b4, b5, e3, hrl, e1, hlR, hkI, g1, g2, g3, g4, hls, hli, hlo, hge0, hlk])
      rw [hss]
      refine vd0 (r.length - (k + 1)) 2 (by omega) (by first|exact vb0|fail) (by omega) (by simp) (by simp [Blk.below, idsE, idsL, AV.ids, hid, hi1, hi2, hi3, hi4]) ⟨k + 1, by omega, rfl, rfl, ?_⟩
      simp (disch := (first|exact discB|fail)) only [push_cast, simprocAttr, b1, b3, b4, b5, e3, hrl, e1, hlR, hkI, g1, g2, g3, g4, hls, hli, hlo, hge0, hlk]
      simp [vm0, AV.ids, idsL, hi1, xk0, hsl]
    ·obtain rfl : k = r.length := by omega
     have hkI : ¬ (r.length : Int) < I := by omega
     repeat' (first|refine nav ?_|(refine g0_ ?_; refine goD ?_)|(with_reducible refine gG ?_ ?_)|((with_reducible refine And.intro (fun h => ?_) (fun h => ?_)) <;> try (exfalso; omega))|(with_reducible refine andG ?_)|fail|simp (disch := (first|exact discB|fail)) only [push_cast, simprocAttr, b1, b3, b4, b5, hrl, hkI])
     rw [hRl]
     refine va0 (x.rows.length - (s + 1)) (by omega) (by first|exact vb0|fail) ⟨s + 1, by omega, rfl, rfl, ?_⟩
     simp (disch := (first|exact discB|fail)) only [push_cast, simprocAttr, b1, b3, b4, b5, hrl, hkI]
     rw [hRl]
  ·obtain rfl : s = x.rows.length := by omega
   repeat' (first|refine nav ?_|(refine g0_ ?_; refine goD ?_)|(with_reducible refine gG ?_ ?_)|((with_reducible refine And.intro (fun h => ?_) (fun h => ?_)) <;> try (exfalso; omega))|(with_reducible refine andG ?_)|fail|simp (disch := (first|exact discB|fail)) only [push_cast, simprocAttr, b1, b3, b4, hlR])
end Go.Proofs
namespace Go.Proofs
open Go Go.V
set_option linter.unusedVariables false
set_option linter.unusedSimpArgs false
set_option maxHeartbeats 0
set_option maxRecDepth 100000
def txK (x : GS) (k : Nat) : Bs := zab9 x ++ ((zk0 x x.rows.length).take k).flatten
theorem xcu9 {x : GS} (hv : x.V) : (zab9 x).length ≤ 2000 := by
 obtain ⟨l1, l2, l3, l4, l5, l6⟩ := hv.cnts
 obtain ⟨n1, n2, n3, n4⟩ := hv.len
 have b1 := qk0 n1 16 l1
 have b2 := qk0 n2 16 l2
 have b3 := qk0 n3 64 l3
 have c0 := xF0 kMac x.nm 16 (by decide) n4
 have c1 := xF0 kIns (Lib.join x.ins [44, 32]) 288 (by decide) b1
 have c2 := xF0 zu0 (Lib.join x.outs [44, 32]) 288 (by decide) b2
 have c3 := xF0 kSts (Lib.join x.sts [44, 32]) 1152 (by decide) b3
 simp only [zab9, List.length_append]; omega
theorem zaW9 (l : List Bs) (k : Nat) : (l.take k).flatten.length ≤ l.flatten.length := by
 have : l.flatten = (l.take k).flatten ++ (l.drop k).flatten := by rw [← List.flatten_append, List.take_append_drop]
 rw [this, List.length_append]; omega
theorem zdh9 (x : GS) (hx : x.Ok) (hv : x.V) : PC Tryz.prog G0 15 [.agg x.A] (.str (waf9 x)) := by
 have hh := wdg9 x hx hv
 have hl := qcS9 x hx hv
 have hid := fun p => kz0 p x
 have hb := xcu9 hv
 have hb2 := qai9 hv x.rows.length (Nat.le_refl _)
 rw [← zO0] at hb2
 have h64 := (xe0 hv.m).2.2.1.2
 have hLl := ka0 (zk0 x x.rows.length)
 have hLb := vab9 hv x.rows.length (Nat.le_refl _)
 have ht0 : zab9 x = txK x 0 := by simp [txK]
 have hts : waf9 x = txK x (zk0 x x.rows.length).length ++ [101, 110, 100, 59, 10] := by
  rw [waf9, ← zO0, txK, List.take_length]; rfl
 have htk : ∀ k, (txK x k).length ≤ 200000 := fun k => by
  have := zaW9 (zk0 x x.rows.length) k
  rw [txK, List.length_append]; omega
 have htn : ∀ k, k < (zk0 x x.rows.length).length → txK x (k + 1) = txK x k ++ (zk0 x x.rows.length).getD k [] := fun k hk => by
  rw [txK, txK, wu0 _ k hk, List.flatten_append]; simp
 have htg : ∀ k, k < (zk0 x x.rows.length).length → ((zk0 x x.rows.length).getD k []).length ≤ 200000 := fun k hk => by
  have := htk (k + 1)
  rw [htn k hk, List.length_append] at this; omega
 have hge := fun k h => zd0 (zk0 x x.rows.length) k h
 rw [ht0] at hh
 generalize zk0 x x.rows.length = LL at *
 unfold GS.A at *
 refine kb0 0 24 [.tmp 2] Tryz.func15 rfl rfl rfl (by simp) ?_
 intro s ⟨a0, hz⟩
 clear hz
 repeat' (first|refine nav ?_|(refine g0_ ?_; refine goD ?_)|(with_reducible refine gG ?_ ?_)|((with_reducible refine And.intro (fun h => ?_) (fun h => ?_)) <;> try (exfalso; omega))|(with_reducible refine andG ?_)|(first|(refine ⟨_, _, qa0 (hh) (by (simp [idsL, idsE, AV.ids, hid])) _, ?_⟩)|(refine ⟨_, qa0 (hh) (by (simp [idsL, idsE, AV.ids, hid])) _, ?_⟩)|(refine ⟨_, fun _ => qa0 (hh) (by (simp [idsL, idsE, AV.ids, hid])) _, ?_⟩)|(refine ⟨_, _, qa0 (hl) (by (simp [idsL, idsE, AV.ids, hid])) _, ?_⟩)|(refine ⟨_, qa0 (hl) (by (simp [idsL, idsE, AV.ids, hid])) _, ?_⟩)|(refine ⟨_, fun _ => qa0 (hl) (by (simp [idsL, idsE, AV.ids, hid])) _, ?_⟩))|simp (disch := (first|exact discB|fail)) only [push_cast, simprocAttr, a0])
 refine go_loop rfl (fun mz s' H' => ∃ k : Nat, k ≤ LL.length ∧ mz = LL.length - k ∧ H' = [.row 7 27 [[.str x.nm, .int .i64 x.i, .int .i64 x.o, .sl x.zr (ve0 x.rows) x.cr, .sl x.zi (strs x.ins) x.ci, .sl x.zo (strs x.outs) x.co, .sl x.zs (strs x.sts) x.cs]]] ∧ s' 3 = .str (txK x k) ∧ s' 4 = .sl 1 (strs LL) none ∧ s' 5 = .int .i64 k) (m := LL.length) (by first|exact vb0|fail) (Weak.refl _ _) ⟨0, by omega, by omega, rfl, ?_⟩ ?_
 ·simp (disch := (first|exact discB|fail)) only [push_cast, simprocAttr, a0]
 ·rintro mz s' H' ⟨k, hk, rfl, rfl, b3, b4, b5⟩
  have hb3 := htk k
  rcases Nat.lt_or_ge k LL.length with hlt|hge2
  ·have e1 := hge k hlt
   have h1 := htn k hlt
   have h2 := htg k hlt
   generalize LL.getD k [] = y at *
   repeat' (first|refine nav ?_|(refine g0_ ?_; refine goD ?_)|(with_reducible refine gG ?_ ?_)|((with_reducible refine And.intro (fun h => ?_) (fun h => ?_)) <;> try (exfalso; omega))|(with_reducible refine andG ?_)|fail|simp (disch := (first|exact discB|fail)) only [push_cast, simprocAttr, b3, b4, b5, e1, hLl])
   refine va0 (LL.length - (k + 1)) (by omega) (by first|exact vb0|fail) ⟨k + 1, by omega, rfl, rfl, ?_⟩
   simp (disch := (first|exact discB|fail)) only [push_cast, simprocAttr, b3, b4, b5, e1, hLl]
   rw [h1]
  ·obtain rfl : k = LL.length := by omega
   repeat' (first|refine nav ?_|(refine g0_ ?_; refine goD ?_)|(with_reducible refine gG ?_ ?_)|((with_reducible refine And.intro (fun h => ?_) (fun h => ?_)) <;> try (exfalso; omega))|(with_reducible refine andG ?_)|fail|simp (disch := (first|exact discB|fail)) only [push_cast, simprocAttr, b3, b4, b5, hLl])
   rw [hts]
end Go.Proofs
