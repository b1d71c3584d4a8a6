import Derived.Test.YtlpjemobbjijdaaGreatDoorS28
namespace Go.Proofs
open Go Go.V
set_option linter.unusedVariables false
set_option linter.unusedSimpArgs false
set_option maxHeartbeats 0
set_option maxRecDepth 100000
def cmK (l : List Bs) (k : Nat) : Bs := Lib.join (l.take k) [44, 32]
theorem wbI9 (l : List Bs) : cmK l 0 = [] := by simp [cmK, Lib.join_nil]
theorem vdx9 (l : List Bs) (h : 0 < l.length) : cmK l 1 = l.getD 0 [] := by
 rw [cmK, wy0 l 0 h, List.take_zero, List.nil_append, Lib.join_one]
theorem qcV9 (l : List Bs) (k : Nat) (h0 : 0 < k) (h : k < l.length) : cmK l (k + 1) = cmK l k ++ [44, 32] ++ l.getD k [] := by
 rw [cmK, wy0 l k h, zbi9 _ _ _ (by intro e; have := congrArg List.length e; rw [l'x, List.length_nil] at this; omega), cmK, l't]
theorem zdN9 (l : List Bs) (h : ∀ s ∈ l, s.length ≤ 16) (k : Nat) : (cmK l k).length ≤ k * 18 := n'a (qas9 16 [44, 32] _ fun s hs => h s (l'P hs)) (l'A _ (by simp; omega))
theorem vbx9 (z : Nat) (l : List Bs) (c : Option Nat) (hz : l = [] ∨ z = 1) (hl : l.length ≤ 1000) (hs : ∀ s ∈ l, s.length ≤ 16) : PC Tryz.prog G0 76 [.sl z (strs l) c] (.str (Lib.join l [44, 32])) := by
 have hL := za0 l;refine wb0 0 22 [.tmp 2] Tryz.func76 rfl rfl rfl (by simp) ?_;intro s ⟨a0, hz⟩;clear hz;repeat' (first|refine nv ?_|(with_reducible first|refine gG ?_ ?_|refine ⟨fun h => ?_, fun h => ?_⟩ <;> try omega|refine andG ?_)|simp (disch := try exact discB) only [push_cast, simprocAttr, a0, hL])
 refine go_loop rfl (fun mz s' H' => ∃ k : Nat, k ≤ l.length ∧ mz = l.length - k ∧ H' = [] ∧ s' 0 = .sl z (strs l) c ∧ s' 3 = .str (cmK l k) ∧ s' 4 = .int .i64 k) (m := l.length) (by first|exact va0|fail) (Weak.refl _ _) ⟨0, by omega, by omega, rfl, ?_⟩ ?_
 ·rw [wbI9];simp (disch := try exact discB) only [push_cast, simprocAttr, a0, hL]
 ·rintro mz s' H' ⟨k, hk, rfl, rfl, b0, b3, b4⟩;have hb := zdN9 l hs k;rcases l'h k l.length with hlt|hge
  ·obtain rfl := hz.resolve_left (by intro h; rw [h] at hlt; simp at hlt);have e1 := vc0 l k hlt;have hx := hs _ (ze0 [] hlt);by_cases h0 : k = 0
   ·subst h0;have h1 := vdx9 l hlt;rw [wbI9] at b3;generalize l.getD 0 [] = x at *;repeat' (first|refine nv ?_|(with_reducible first|refine gG ?_ ?_|refine ⟨fun h => ?_, fun h => ?_⟩ <;> try omega|refine andG ?_)|simp (disch := try exact discB) only [push_cast, simprocAttr, b0, b3, b4, e1, hL])
    refine wa0 (l.length - (0 + 1)) (by omega) (by first|exact va0|fail) ⟨0 + 1, by omega, rfl, rfl, ?_⟩;simp (disch := try exact discB) only [push_cast, simprocAttr, b0, b3, b4, e1, hL];rw [h1]
   ·have h1 := qcV9 l k (by omega) hlt;have h0' : (0 : Int) < k := by omega
    generalize l.getD k [] = x at *;repeat' (first|refine nv ?_|(with_reducible first|refine gG ?_ ?_|refine ⟨fun h => ?_, fun h => ?_⟩ <;> try omega|refine andG ?_)|simp (disch := try exact discB) only [push_cast, simprocAttr, b0, b3, b4, e1, hL, h0'])
    refine wa0 (l.length - (k + 1)) (by omega) (by first|exact va0|fail) ⟨k + 1, by omega, rfl, rfl, ?_⟩;simp (disch := try exact discB) only [push_cast, simprocAttr, b0, b3, b4, e1, hL, h0'];rw [h1]
  ·obtain rfl : k = l.length := by omega
   repeat' (first|refine nv ?_|(with_reducible first|refine gG ?_ ?_|refine ⟨fun h => ?_, fun h => ?_⟩ <;> try omega|refine andG ?_)|simp (disch := try exact discB) only [push_cast, simprocAttr, b0, b3, b4, hL])
   simp [cmK]
theorem kaV9 (a b : Bs) : lnL [a, b] = a ++ ([32] ++ b) ++ [59, 10] := by
 rw [lnL, Lib.join_cons]; simp [Lib.joinTail]
theorem vdd9 (x : GS) (hx : x.Ok) (hv : x.V) : PC Tryz.prog G0 26 [.agg x.A] (.str (zn0 x)) := by
 obtain ⟨l1, l2, l3, l4, l5, l6⟩ := hv.cnts;obtain ⟨n1, n2, n3, n4⟩ := hv.len;have c1 := vbx9 x.zi x.ins x.ci hx.i (by omega) n1;have c2 := vbx9 x.zo x.outs x.co hx.o (by omega) n2;have c3 := vbx9 x.zs x.sts x.cs hx.s (by omega) n3;have b1 := wm0 n1 16 l1;have b2 := wm0 n2 16 l2;have b3 := wm0 n3 64 l3;have hi1 : ∀ p, idsE p (kb0 x.rows) = true := fun p => we0 p _;have hi2 : ∀ p, idsE p (strs x.ins) = true := fun p => xa0 p _;have hi3 : ∀ p, idsE p (strs x.outs) = true := fun p => xa0 p _;have hi4 : ∀ p, idsE p (strs x.sts) = true := fun p => xa0 p _;unfold zn0;rw [kaV9, kaV9, kaV9, kaV9];unfold GS.A kMac kIns kk0 kSts;generalize Lib.join x.ins [44, 32] = J1 at *;generalize Lib.join x.outs [44, 32] = J2 at *;generalize Lib.join x.sts [44, 32] = J3 at *;refine wb0 0 22 [.tmp 2] Tryz.func26 rfl rfl rfl (by simp) ?_;intro s ⟨a0, hz⟩;clear hz;repeat' (first|refine nv ?_|(with_reducible first|refine gG ?_ ?_|refine ⟨fun h => ?_, fun h => ?_⟩ <;> try omega|refine andG ?_)|refine cp c1 ?_ (hi := by (simp [idsL, idsE, AV.ids, hi1, hi2, hi3, hi4]))|refine cp c2 ?_ (hi := by (simp [idsL, idsE, AV.ids, hi1, hi2, hi3, hi4]))|refine cp c3 ?_ (hi := by (simp [idsL, idsE, AV.ids, hi1, hi2, hi3, hi4]))|simp (disch := try exact discB) only [push_cast, simprocAttr, a0])
 simp [l't]
def edL (x : GS) (s i : Nat) (e : Edg) : List Bs := if e.1 = -1 then [] else [eLn x s i e]
def kao9 (x : GS) (s k : Nat) : List Bs := (List.range k).flatMap fun i => edL x s i ((x.row s).getD i (0, 0))
def linesL (x : GS) (s : Nat) : List Bs := (List.range s).flatMap fun s => kao9 x s (x.row s).length
theorem vaN9 (x : GS) (s : Nat) : kao9 x s 0 = [] := rfl
theorem kbx9 (x : GS) : linesL x 0 = [] := rfl
theorem vak9 (x : GS) (s k : Nat) : kao9 x s (k + 1) = kao9 x s k ++ edL x s k ((x.row s).getD k (0, 0)) := by rw [kao9, n'j, n'G]; simp [kao9]
theorem xW0 (x : GS) (s : Nat) : linesL x (s + 1) = linesL x s ++ kao9 x s (x.row s).length := by rw [linesL, n'j, n'G]; simp [linesL]
theorem kaN9 (x : GS) (s : Nat) : ∀ k, (kao9 x s k).flatten = rowT x s k
 | 0 => rfl
 | k + 1 => by
  rw [vak9, qad9, z'c, kaN9 x s k];congr 1
  unfold edL eLn;split <;> simp
theorem wW0 (x : GS) : ∀ s, (linesL x s).flatten = vao9 x s
 | 0 => rfl
 | s + 1 => by rw [xW0, wP0, z'c, wW0 x s, kaN9]
theorem vaC9 (x : GS) (s : Nat) : ∀ k, (kao9 x s k).length ≤ k
 | 0 => by simp [vaN9]
 | k + 1 => by
  have := vaC9 x s k;rw [vak9, l'i];have : (edL x s k ((x.row s).getD k (0, 0))).length ≤ 1 := by unfold edL; split <;> simp
  omega
theorem vP0 {x : GS} (h : x.V) : ∀ s, s ≤ x.rows.length → (linesL x s).length ≤ s * 16
 | 0, _ => by simp [kbx9]
 | s + 1, hs => by
  have h1 := vP0 h s (by omega);have h2 := vaC9 x s (x.row s).length;have h3 := (vd0 h.m).2.2.2.1 s (by omega);have h4 := (vd0 h.m).1.2;have h5 : (x.row s).length ≤ 16 := by unfold GS.row; omega
  rw [xW0, l'i]; omega
theorem xdN9 (a b c e : Bs) : lnL [a, b, [47], c, [45, 62], e] = a ++ [32] ++ b ++ [32, 47, 32] ++ c ++ [32, 45, 62, 32] ++ e ++ [59, 10] := by
 rw [lnL, Lib.join_cons]; simp [Lib.joinTail, l't]
def lS (x : GS) (s k : Nat) : List Bs := linesL x s ++ kao9 x s k
theorem kdx9 (x : GS) (s : Nat) : linesL x s = lS x s 0 := by simp [lS, vaN9]
theorem wdN9 (x : GS) (s : Nat) : lS x s (x.row s).length = linesL x (s + 1) := by rw [lS, xW0]
theorem qdy9 (x : GS) (s k : Nat) : lS x s (k + 1) = lS x s k ++ edL x s k ((x.row s).getD k (0, 0)) := by rw [lS, lS, vak9, l't]
theorem vdN9 {x : GS} (h : x.V) (s k : Nat) (hs : s < x.rows.length) (hk : k ≤ (x.row s).length) : (lS x s k).length ≤ 100000 := by
 have h1 := vP0 h s (by omega);have h2 := vaC9 x s k;have h3 := (vd0 h.m).2.2.2.1 s hs;have h4 := (vd0 h.m).1.2;have h6 := (vd0 h.m).2.2.1.2;have h5 : (x.row s).length ≤ 16 := by unfold GS.row; omega
 rw [lS, l'i]; omega
theorem xcx9 (x : GS) (hx : x.Ok) (hv : x.V) : PC Tryz.prog G0 25 [.agg x.A] (.sl 1 (strs (linesL x x.rows.length)) none) := by
 obtain ⟨l1, l2, l3, l4, l5, l6⟩ := hv.cnts;obtain ⟨n1, n2, n3, n4⟩ := hv.len;have hm := vd0 hv.m;have hz0 : x.zr = 1 := hx.r.resolve_left (by intro e; have := hm.2.2.1.1; rw [e] at this; simp at this);have hz1 : x.zi = 1 := hx.i.resolve_left (by intro e; rw [e] at l4; simp at l4);have hz2 : x.zo = 1 := hx.o.resolve_left (by intro e; rw [e] at l5; simp at l5);have hz3 : x.zs = 1 := hx.s.resolve_left (by intro e; rw [e] at l6; simp at l6);have hid := fun p => vr0 p x;have hi1 : ∀ p, idsE p (kb0 x.rows) = true := fun p => we0 p _;have hi2 : ∀ p, idsE p (strs x.ins) = true := fun p => xa0 p _;have hi3 : ∀ p, idsE p (strs x.outs) = true := fun p => xa0 p _;have hi4 : ∀ p, idsE p (strs x.sts) = true := fun p => xa0 p _;have hlR := xn0 x.rows;have hls := za0 x.sts;have hli := za0 x.ins;have hlo := za0 x.outs;have hcs := hv.cs;have hci := hv.ci;have hco := hv.co;have hii := hm.1;obtain ⟨I, hI⟩ : ∃ I : Nat, x.i = I := ⟨x.i.toNat, by omega⟩;unfold GS.A at *;rw [hz0, hz1, hz2, hz3, hI];rw [hI] at hii hci;refine wb0 1 67 [.tmp 2] Tryz.func25 rfl rfl rfl (by simp) ?_;intro s ⟨a0, hz⟩;clear hz;repeat' (first|refine nv ?_|(with_reducible first|refine gG ?_ ?_|refine ⟨fun h => ?_, fun h => ?_⟩ <;> try omega|refine andG ?_)|simp (disch := try exact discB) only [push_cast, simprocAttr, a0, hlR])
 refine kq0 (by first|exact va0|fail) (qr0 (t := 3) (z := 0) (sz := 1) (ty := 9) rfl) ?_;refine go_loop rfl (fun mz s' H' => ∃ s : Nat, s ≤ x.rows.length ∧ mz = x.rows.length - s ∧ H' = [.row 7 27 [[.str x.nm, .int .i64 (I : Int), .int .i64 x.o, .sl 1 (kb0 x.rows) x.cr, .sl 1 (strs x.ins) x.ci, .sl 1 (strs x.outs) x.co, .sl 1 (strs x.sts) x.cs]], .row 1 9 (strs (linesL x s))] ∧ s' 1 = .ptr 0 0 0 1 ∧ s' 3 = .own 1 (linesL x s).length (linesL x s).length none ∧ s' 4 = .int .i64 s) (m := x.rows.length) (by first|exact va0|fail) (Weak.refl _ _) ⟨0, by omega, by omega, rfl, ?_⟩ ?_
 ·simp (disch := try exact discB) only [push_cast, simprocAttr, a0, hlR];all_goals rfl
 ·rintro mz s' H' ⟨s, hs, rfl, rfl, b1, b3, b4⟩;rcases l'h s x.rows.length with hlt|hge
  ·have e1 := vo0 x.rows s hlt;have hw := hm.2.2.2.1 s hlt;have hfit := hm.2.2.2.2 s hlt;have hRl := wdN9 x s;have hRs := qdy9 x s;have hRb := fun k hk => vdN9 hv s k hlt hk;rw [kdx9 x s] at b3 ⊢;unfold GS.row at hRl hRs hRb;generalize (x.rows.getD s ([], none)).2 = cr at *;generalize (x.rows.getD s ([], none)).1 = r at *;have hrl := qf0 r;have hrI : r.length = I := by omega
   repeat' (first|refine nv ?_|(with_reducible first|refine gG ?_ ?_|refine ⟨fun h => ?_, fun h => ?_⟩ <;> try omega|refine andG ?_)|simp (disch := try exact discB) only [push_cast, simprocAttr, b1, b3, b4, e1, hlR, hrl])
   refine go_loop rfl (fun mz s' H' => ∃ k : Nat, k ≤ r.length ∧ mz = r.length - k ∧ H' = [.row 7 27 [[.str x.nm, .int .i64 (I : Int), .int .i64 x.o, .sl 1 (kb0 x.rows) x.cr, .sl 1 (strs x.ins) x.ci, .sl 1 (strs x.outs) x.co, .sl 1 (strs x.sts) x.cs]], .row 1 9 (strs (lS x s k))] ∧ s' 1 = .ptr 0 0 0 1 ∧ s' 3 = .own 1 (lS x s k).length (lS x s k).length none ∧ s' 4 = .int .i64 s ∧ s' 5 = .int .i64 k) (m := r.length) (by first|exact va0|fail) (Weak.refl _ _) ⟨0, by omega, by omega, rfl, ?_⟩ ?_
   ·simp (disch := try exact discB) only [push_cast, simprocAttr, b1, b3, b4, e1, hlR, hrl]
   ·clear b1 b3 b4;rintro mz s' H' ⟨k, hk, rfl, rfl, b1, b3, b4, b5⟩;rcases l'h k r.length with hlt3|hge3
    ·have e3 := wn0 r k hlt3;have hsc := hRs k;have hb := hRb k (by omega);have hf1 := fitE_iff.1 (l'j.1 hfit _ (ze0 (0, 0) hlt3));have hlk := za0 (lS x s k);have hkI : (k : Int) < I := by omega
     generalize r.getD k (0, 0) = e at *;obtain ⟨t1, o1⟩ := e;simp only [eA] at e3;simp only [Prod.mk.injEq] at hf1;by_cases ht : t1 = -1
     ·subst ht;rw [edL, if_pos rfl, l'F] at hsc;rw [← hsc];repeat' (first|refine nv ?_|(with_reducible first|refine gG ?_ ?_|refine ⟨fun h => ?_, fun h => ?_⟩ <;> try omega|refine andG ?_)|simp (disch := try exact discB) only [push_cast, simprocAttr, b1, b3, b4, b5, e3, hrl, e1, hlR, hkI])
      refine qe0 (r.length - (k + 1)) 2 (by omega) (by first|exact va0|fail) (by omega) (by simp) (by simp [Blk.below, idsE, idsL, AV.ids, hid, hi1, hi2, hi3, hi4]) ⟨k + 1, by omega, rfl, rfl, ?_⟩;simp (disch := try exact discB) only [push_cast, simprocAttr, b1, b3, b4, b5, e3, hrl, e1, hlR, hkI];simp [xi0, AV.ids, idsL, hi1, xm0];rw [hsc]
     ·rcases hf1 with ⟨q, _⟩|⟨q1, q2, q3, q4⟩
      ·exact absurd q ht
      obtain ⟨tn, rfl⟩ : ∃ n : Nat, t1 = n := ⟨t1.toNat, by omega⟩;obtain ⟨on, rfl⟩ : ∃ n : Nat, o1 = n := ⟨o1.toNat, by omega⟩;rw [edL, if_neg ht, eLn, if_neg ht, Int.toNat_natCast, Int.toNat_natCast, xdN9] at hsc;have g1 := vc0 x.sts s (by omega);have g2 := vc0 x.ins k (by omega);have g3 := vc0 x.outs on (by omega);have g4 := vc0 x.sts tn (by omega);have m1 := xH0 n3 s;have m2 := xH0 n1 k;have m3 := xH0 n2 on;have m4 := xH0 n3 tn;have hge0 : (0 : Int) ≤ tn := by omega
      generalize x.sts.getD s [] = S1 at *;generalize x.ins.getD k [] = S2 at *;generalize x.outs.getD on [] = S3 at *;generalize x.sts.getD tn [] = S4 at *;have hss := kL0 (lS x s k) (S1 ++ [32] ++ S2 ++ [32, 47, 32] ++ S3 ++ [32, 45, 62, 32] ++ S4 ++ [59, 10]);rw [← hsc] at hss;have hsl : (lS x s (k + 1)).length = (lS x s k).length + 1 := by rw [hsc]; simp
      repeat' (first|refine nv ?_|(with_reducible first|refine gG ?_ ?_|refine ⟨fun h => ?_, fun h => ?_⟩ <;> try omega|refine andG ?_)|simp (disch := try exact discB) only [push_cast, simprocAttr, b1, b3, b4, b5, e3, hrl, e1, hlR, hkI, g1, g2, g3, g4, hls, hli, hlo, hge0, hlk])
      rw [hss];refine qe0 (r.length - (k + 1)) 2 (by omega) (by first|exact va0|fail) (by omega) (by simp) (by simp [Blk.below, idsE, idsL, AV.ids, hid, hi1, hi2, hi3, hi4]) ⟨k + 1, by omega, rfl, rfl, ?_⟩;simp (disch := try exact discB) only [push_cast, simprocAttr, b1, b3, b4, b5, e3, hrl, e1, hlR, hkI, g1, g2, g3, g4, hls, hli, hlo, hge0, hlk];simp [xi0, AV.ids, idsL, hi1, xm0, hsl]
    ·obtain rfl : k = r.length := by omega
     have hkI : ¬ (r.length : Int) < I := by omega
     repeat' (first|refine nv ?_|(with_reducible first|refine gG ?_ ?_|refine ⟨fun h => ?_, fun h => ?_⟩ <;> try omega|refine andG ?_)|simp (disch := try exact discB) only [push_cast, simprocAttr, b1, b3, b4, b5, hrl, hkI])
     rw [hRl];refine wa0 (x.rows.length - (s + 1)) (by omega) (by first|exact va0|fail) ⟨s + 1, by omega, rfl, rfl, ?_⟩;simp (disch := try exact discB) only [push_cast, simprocAttr, b1, b3, b4, b5, hrl, hkI];rw [hRl]
  ·obtain rfl : s = x.rows.length := by omega
   repeat' (first|refine nv ?_|(with_reducible first|refine gG ?_ ?_|refine ⟨fun h => ?_, fun h => ?_⟩ <;> try omega|refine andG ?_)|simp (disch := try exact discB) only [push_cast, simprocAttr, b1, b3, b4, hlR])
def txK (x : GS) (k : Nat) : Bs := zn0 x ++ ((linesL x x.rows.length).take k).flatten
theorem qaW9 {x : GS} (hv : x.V) : (zn0 x).length ≤ 2000 := by
 obtain ⟨l1, l2, l3, l4, l5, l6⟩ := hv.cnts;obtain ⟨n1, n2, n3, n4⟩ := hv.len;have b1 := wm0 n1 16 l1;have b2 := wm0 n2 16 l2;have b3 := wm0 n3 64 l3;have c0 := qM0 kMac x.nm 16 (by decide) n4;have c1 := qM0 kIns (Lib.join x.ins [44, 32]) 288 (by decide) b1;have c2 := qM0 kk0 (Lib.join x.outs [44, 32]) 288 (by decide) b2;have c3 := qM0 kSts (Lib.join x.sts [44, 32]) 1152 (by decide) b3;simp only [zn0, l'i]; omega
theorem zbk9 (l : List Bs) (k : Nat) : (l.take k).flatten.length ≤ l.flatten.length := by
 have : l.flatten = (l.take k).flatten ++ (l.drop k).flatten := by rw [← z'c, n'x]
 rw [this, l'i]; omega
theorem kdN9 (x : GS) (hx : x.Ok) (hv : x.V) : PC Tryz.prog G0 15 [.agg x.A] (.str (qy0 x)) := by
 have hh := vdd9 x hx hv;have hl := xcx9 x hx hv;have hid := fun p => vr0 p x;have hb := qaW9 hv;have hb2 := zad9 hv x.rows.length (l'd _);rw [← wW0] at hb2;have h64 := (vd0 hv.m).2.2.1.2;have hLl := za0 (linesL x x.rows.length);have hLb := vP0 hv x.rows.length (l'd _);have ht0 : zn0 x = txK x 0 := by simp [txK]
 have hts : qy0 x = txK x (linesL x x.rows.length).length ++ [101, 110, 100, 59, 10] := by
  rw [qy0, ← wW0, txK, l'E]; rfl
 have htk : ∀ k, (txK x k).length ≤ 200000 := fun k => by
  have := zbk9 (linesL x x.rows.length) k;rw [txK, l'i]; omega
 have htn : ∀ k, k < (linesL x x.rows.length).length → txK x (k + 1) = txK x k ++ (linesL x x.rows.length).getD k [] := fun k hk => by
  rw [txK, txK, wy0 _ k hk, z'c]; simp
 have htg : ∀ k, k < (linesL x x.rows.length).length → ((linesL x x.rows.length).getD k []).length ≤ 200000 := fun k hk => by
  have := htk (k + 1);rw [htn k hk, l'i] at this; omega
 have hge := fun k h => vc0 (linesL x x.rows.length) k h;rw [ht0] at hh;generalize linesL x x.rows.length = LL at *;unfold GS.A at *;refine wb0 0 24 [.tmp 2] Tryz.func15 rfl rfl rfl (by simp) ?_;intro s ⟨a0, hz⟩;clear hz;repeat' (first|refine nv ?_|(with_reducible first|refine gG ?_ ?_|refine ⟨fun h => ?_, fun h => ?_⟩ <;> try omega|refine andG ?_)|refine cp hh ?_ (hi := by (simp [idsL, idsE, AV.ids, hid]))|refine cp hl ?_ (hi := by (simp [idsL, idsE, AV.ids, hid]))|simp (disch := try exact discB) only [push_cast, simprocAttr, a0])
 refine go_loop rfl (fun mz s' H' => ∃ k : Nat, k ≤ LL.length ∧ mz = LL.length - k ∧ H' = [.row 7 27 [[.str x.nm, .int .i64 x.i, .int .i64 x.o, .sl x.zr (kb0 x.rows) x.cr, .sl x.zi (strs x.ins) x.ci, .sl x.zo (strs x.outs) x.co, .sl x.zs (strs x.sts) x.cs]]] ∧ s' 3 = .str (txK x k) ∧ s' 4 = .sl 1 (strs LL) none ∧ s' 5 = .int .i64 k) (m := LL.length) (by first|exact va0|fail) (Weak.refl _ _) ⟨0, by omega, by omega, rfl, ?_⟩ ?_
 ·simp (disch := try exact discB) only [push_cast, simprocAttr, a0]
 ·rintro mz s' H' ⟨k, hk, rfl, rfl, b3, b4, b5⟩;have hb3 := htk k;rcases l'h k LL.length with hlt|hge2
  ·have e1 := hge k hlt;have h1 := htn k hlt;have h2 := htg k hlt;generalize LL.getD k [] = y at *;repeat' (first|refine nv ?_|(with_reducible first|refine gG ?_ ?_|refine ⟨fun h => ?_, fun h => ?_⟩ <;> try omega|refine andG ?_)|simp (disch := try exact discB) only [push_cast, simprocAttr, b3, b4, b5, e1, hLl])
   refine wa0 (LL.length - (k + 1)) (by omega) (by first|exact va0|fail) ⟨k + 1, by omega, rfl, rfl, ?_⟩;simp (disch := try exact discB) only [push_cast, simprocAttr, b3, b4, b5, e1, hLl];rw [h1]
  ·obtain rfl : k = LL.length := by omega
   repeat' (first|refine nv ?_|(with_reducible first|refine gG ?_ ?_|refine ⟨fun h => ?_, fun h => ?_⟩ <;> try omega|refine andG ?_)|simp (disch := try exact discB) only [push_cast, simprocAttr, b3, b4, b5, hLl])
   rw [hts]
end Go.Proofs
