import Derived.Test.YtlpjemobbjijdaaGreatDoorS18
import Derived.Test.YtlpjemobbjijdaaGreatDoorV63
import Derived.Test.YtlpjemobbjijdaaGreatDoorNUM
import Derived.Lib.Join
namespace Go.Proofs
open Go Go.V
set_option linter.unusedVariables false
set_option linter.unusedSimpArgs false
set_option maxHeartbeats 0
set_option maxRecDepth 100000
theorem vbw9 (z : Nat) (l : List Bs) (c : Option Nat) (z' : Nat) (l' : List Bs) (c' : Option Nat) (hz : l = [] ∨ z = 1) (hz' : l' = [] ∨ z' = 1) (hl : l.length ≤ 1000000) (hl' : l'.length ≤ 1000000) : PC Tryz.prog G0 47 [.sl z (strs l) c, .sl z' (strs l') c'] (.bool (decide (l = l'))) := by
 refine wb0 0 26 [.tmp 4] Tryz.func47 rfl rfl rfl (by simp) ?_;intro s ⟨a0, a1, hz⟩;simp only [l'g, Nat.reduceAdd] at a1;clear hz;repeat' (first|refine nv ?_|(with_reducible first|refine gG ?_ ?_|refine ⟨fun h => ?_, fun h => ?_⟩ <;> try omega|refine andG ?_)|simp (disch := try exact discB) only [push_cast, simprocAttr, a0, a1])
 ·rw [decide_eq_false];intro e;rw [e] at h; omega
 ·refine go_loop rfl (fun mz s' H' => ∃ k : Nat, k ≤ l.length ∧ mz = l.length - k ∧ H' = [] ∧ s' 0 = .sl z (strs l) c ∧ s' 1 = .sl z' (strs l') c' ∧ s' 12 = .int .i64 l.length ∧ s' 13 = .int .i64 k ∧ ∀ j, j < k → l.getD j [] = l'.getD j []) (m := l.length) (by first|exact va0|fail) (Weak.refl _ _) ⟨0, by omega, by omega, rfl, ?_⟩ ?_
  ·simp (disch := try exact discB) only [push_cast, simprocAttr, a0, a1];all_goals exact fun j hj => by omega
  ·rintro mz s' H' ⟨k, hk, rfl, rfl, b0, b1, b12, b13, ik⟩;rcases l'h k l.length with hlt|hge
   ·have hlt2 : k < l'.length := by omega
    obtain rfl := hz.resolve_left (by intro h; rw [h] at hlt; simp at hlt);obtain rfl := hz'.resolve_left (by intro h; rw [h] at hlt2; simp at hlt2);have e1 := vc0 l k hlt;have e2 := vc0 l' k hlt2;have hs := wE0 (P := fun j => l.getD j [] = l'.getD j []) (k := k) ik;have hno : l.getD k [] ≠ l'.getD k [] → ¬ l = l' := fun h hh => h (by rw [hh]);generalize l.getD k [] = x at *;generalize l'.getD k [] = y at *;by_cases hxy : x = y
    ·subst hxy;repeat' (first|refine nv ?_|(with_reducible first|refine gG ?_ ?_|refine ⟨fun h => ?_, fun h => ?_⟩ <;> try omega|refine andG ?_)|simp (disch := try exact discB) only [push_cast, simprocAttr, b0, b1, b12, b13, e1, e2])
     refine wa0 (l.length - (k + 1)) (by omega) (by first|exact va0|fail) ⟨k + 1, by omega, rfl, rfl, ?_⟩;simp (disch := try exact discB) only [push_cast, simprocAttr, b0, b1, b12, b13, e1, e2];exact hs rfl
    ·have hxy2 : decide (x = y) = false := decide_eq_false hxy;repeat' (first|refine nv ?_|(with_reducible first|refine gG ?_ ?_|refine ⟨fun h => ?_, fun h => ?_⟩ <;> try omega|refine andG ?_)|simp (disch := try exact discB) only [push_cast, simprocAttr, b0, b1, b12, b13, e1, e2, hxy, hxy2])
     rw [decide_eq_false (hno hxy)]
   ·obtain rfl : k = l.length := by omega
    repeat' (first|refine nv ?_|(with_reducible first|refine gG ?_ ?_|refine ⟨fun h => ?_, fun h => ?_⟩ <;> try omega|refine andG ?_)|simp (disch := try exact discB) only [push_cast, simprocAttr, b0, b1, b12, b13])
    rw [decide_eq_true];exact qH0 [] (by omega) ik
theorem zdv9 (z : Nat) (l : List Edg) (c : Option Nat) (z' : Nat) (l' : List Edg) (c' : Option Nat) (hz : l = [] ∨ z = 2) (hz' : l' = [] ∨ z' = 2) (hl : l.length ≤ 1000000) (hl' : l'.length ≤ 1000000) : PC Tryz.prog G0 90 [.sl z (rowA l) c, .sl z' (rowA l') c'] (.bool (decide (l = l'))) := by
 refine wb0 0 26 [.tmp 4] Tryz.func90 rfl rfl rfl (by simp) ?_;intro s ⟨a0, a1, hz⟩;simp only [l'g, Nat.reduceAdd] at a1;clear hz;repeat' (first|refine nv ?_|(with_reducible first|refine gG ?_ ?_|refine ⟨fun h => ?_, fun h => ?_⟩ <;> try omega|refine andG ?_)|simp (disch := try exact discB) only [push_cast, simprocAttr, a0, a1])
 ·rw [decide_eq_false];intro e;rw [e] at h; omega
 ·refine go_loop rfl (fun mz s' H' => ∃ k : Nat, k ≤ l.length ∧ mz = l.length - k ∧ H' = [] ∧ s' 0 = .sl z (rowA l) c ∧ s' 1 = .sl z' (rowA l') c' ∧ s' 12 = .int .i64 l.length ∧ s' 13 = .int .i64 k ∧ ∀ j, j < k → l.getD j (0, 0) = l'.getD j (0, 0)) (m := l.length) (by first|exact va0|fail) (Weak.refl _ _) ⟨0, by omega, by omega, rfl, ?_⟩ ?_
  ·simp (disch := try exact discB) only [push_cast, simprocAttr, a0, a1];all_goals exact fun j hj => by omega
  ·rintro mz s' H' ⟨k, hk, rfl, rfl, b0, b1, b12, b13, ik⟩;rcases l'h k l.length with hlt|hge
   ·have hlt2 : k < l'.length := by omega
    obtain rfl := hz.resolve_left (by intro h; rw [h] at hlt; simp at hlt);obtain rfl := hz'.resolve_left (by intro h; rw [h] at hlt2; simp at hlt2);have e1 := wn0 l k hlt;have e2 := wn0 l' k hlt2;have hs := wE0 (P := fun j => l.getD j (0, 0) = l'.getD j (0, 0)) (k := k) ik;have hno : l.getD k (0, 0) ≠ l'.getD k (0, 0) → ¬ l = l' := fun h hh => h (by rw [hh]);generalize l.getD k (0, 0) = x at *;generalize l'.getD k (0, 0) = y at *;obtain ⟨x1, x2⟩ := x;obtain ⟨y1, y2⟩ := y;simp only [eA] at e1 e2;simp only [Prod.mk.injEq, Ne] at hs hno;repeat' (first|refine nv ?_|(with_reducible first|refine gG ?_ ?_|refine ⟨fun h => ?_, fun h => ?_⟩ <;> try omega|refine andG ?_)|simp (disch := try exact discB) only [push_cast, simprocAttr, b0, b1, b12, b13, e1, e2])
    ·rw [decide_eq_false];exact hno (by omega)
    ·refine wa0 (l.length - (k + 1)) (by omega) (by first|exact va0|fail) ⟨k + 1, by omega, rfl, rfl, ?_⟩;simp (disch := try exact discB) only [push_cast, simprocAttr, b0, b1, b12, b13, e1, e2];exact hs (by omega)
   ·obtain rfl : k = l.length := by omega
    repeat' (first|refine nv ?_|(with_reducible first|refine gG ?_ ?_|refine ⟨fun h => ?_, fun h => ?_⟩ <;> try omega|refine andG ?_)|simp (disch := try exact discB) only [push_cast, simprocAttr, b0, b1, b12, b13])
    rw [decide_eq_true];exact qH0 (0, 0) (by omega) ik
theorem kbw9 (z : Nat) (l : List Row) (c : Option Nat) (z' : Nat) (l' : List Row) (c' : Option Nat) (hz : l = [] ∨ z = 1) (hz' : l' = [] ∨ z' = 1) (hl : l.length ≤ 1000000) (hl' : l'.length ≤ 1000000) (hr : ∀ j, j < l.length → (l.getD j ([], none)).1.length ≤ 1000000) (hr' : ∀ j, j < l'.length → (l'.getD j ([], none)).1.length ≤ 1000000) : PC Tryz.prog G0 89 [.sl z (kb0 l) c, .sl z' (kb0 l') c', .fn 90 []] (.bool (decide (edgesOf l = edgesOf l'))) := by
 refine wb0 0 32 [.tmp 6] Tryz.func89 rfl rfl rfl (by simp) ?_;intro s ⟨a0, a1, a2, hz⟩;simp only [l'g, Nat.reduceAdd] at a1 a2;clear hz;repeat' (first|refine nv ?_|(with_reducible first|refine gG ?_ ?_|refine ⟨fun h => ?_, fun h => ?_⟩ <;> try omega|refine andG ?_)|simp (disch := try exact discB) only [push_cast, simprocAttr, a0, a1, a2])
 ·rw [decide_eq_false];intro e;have := congrArg List.length e;simp [edgesOf] at this;omega
 ·refine go_loop rfl (fun mz s' H' => ∃ k : Nat, k ≤ l.length ∧ mz = l.length - k ∧ H' = [] ∧ s' 0 = .sl z (kb0 l) c ∧ s' 1 = .sl z' (kb0 l') c' ∧ s' 2 = .fn 90 [] ∧ s' 15 = .sl z (kb0 l) c ∧ s' 16 = .int .i64 l.length ∧ s' 17 = .int .i64 k ∧ ∀ j, j < k → (l.getD j ([], none)).1 = (l'.getD j ([], none)).1) (m := l.length) (by first|exact va0|fail) (Weak.refl _ _) ⟨0, by omega, by omega, rfl, ?_⟩ ?_
  ·simp (disch := try exact discB) only [push_cast, simprocAttr, a0, a1, a2];all_goals exact fun j hj => by omega
  ·rintro mz s' H' ⟨k, hk, rfl, rfl, b0, b1, b2, b15, b16, b17, ik⟩;rcases l'h k l.length with hlt|hge
   ·have hlt2 : k < l'.length := by omega
    obtain rfl := hz.resolve_left (by intro h; rw [h] at hlt; simp at hlt);obtain rfl := hz'.resolve_left (by intro h; rw [h] at hlt2; simp at hlt2);have e1 := vo0 l k hlt;have e2 := vo0 l' k hlt2;have hE := zdv9 2 (l.getD k ([], none)).1 (l.getD k ([], none)).2 2 (l'.getD k ([], none)).1 (l'.getD k ([], none)).2 (.inr rfl) (.inr rfl) (hr k hlt) (hr' k hlt2);have hs := wE0 (P := fun j => (l.getD j ([], none)).1 = (l'.getD j ([], none)).1) (k := k) ik;have hno : (l.getD k ([], none)).1 ≠ (l'.getD k ([], none)).1 → ¬ (edgesOf l = edgesOf l') := fun h hh => h (by rw [← kd0, ← kd0, hh]);have hi1 : ∀ p, idsE p (rowA (l.getD k ([], none)).1) = true := fun p => xm0 p _;have hi2 : ∀ p, idsE p (rowA (l'.getD k ([], none)).1) = true := fun p => xm0 p _;generalize (l.getD k ([], none)).2 = cc at *;generalize (l'.getD k ([], none)).2 = cc' at *;generalize rowA (l.getD k ([], none)).1 = X at *;generalize rowA (l'.getD k ([], none)).1 = Y at *;generalize hbb : decide ((l.getD k ([], none)).1 = (l'.getD k ([], none)).1) = b at *;cases b with
    | false =>
     repeat' (first|refine nv ?_|(with_reducible first|refine gG ?_ ?_|refine ⟨fun h => ?_, fun h => ?_⟩ <;> try omega|refine andG ?_)|refine cp hE ?_ (hi := by (simp [idsL, idsE, AV.ids, hi1, hi2]))|simp (disch := try exact discB) only [push_cast, simprocAttr, b0, b1, b2, b15, b16, b17, e1, e2, en90])
     rw [decide_eq_false (hno (of_decide_eq_false hbb))]
    | true =>
     repeat' (first|refine nv ?_|(with_reducible first|refine gG ?_ ?_|refine ⟨fun h => ?_, fun h => ?_⟩ <;> try omega|refine andG ?_)|refine cp hE ?_ (hi := by (simp [idsL, idsE, AV.ids, hi1, hi2]))|simp (disch := try exact discB) only [push_cast, simprocAttr, b0, b1, b2, b15, b16, b17, e1, e2, en90])
     refine wa0 (l.length - (k + 1)) (by omega) (by first|exact va0|fail) ⟨k + 1, by omega, rfl, rfl, ?_⟩;simp (disch := try exact discB) only [push_cast, simprocAttr, b0, b1, b2, b15, b16, b17, e1, e2, en90];exact hs (of_decide_eq_true hbb)
   ·obtain rfl : k = l.length := by omega
    repeat' (first|refine nv ?_|(with_reducible first|refine gG ?_ ?_|refine ⟨fun h => ?_, fun h => ?_⟩ <;> try omega|refine andG ?_)|refine cp hE ?_ (hi := by (simp [idsL, idsE, AV.ids, hi1, hi2]))|simp (disch := try exact discB) only [push_cast, simprocAttr, b0, b1, b2, b15, b16, b17])
    rw [decide_eq_true];refine qH0 [] (by simp [edgesOf]; omega) fun j hj => ?_;rw [kd0, kd0];exact ik j (by simpa [edgesOf] using hj)
def vct9 (i o : Int) (l : List Row) (i' o' : Int) (l' : List Row) : Bool := decide (zk0 i o l = 0) && decide (zk0 i' o' l' = 0) && decide (i = i') && decide (o = o') && decide (edgesOf l = edgesOf l')
theorem xdM9 (i o : Int) (l : List Row) (z : Nat) (c : Option Nat) (i' o' : Int) (l' : List Row) (z' : Nat) (c' : Option Nat) (hz : l = [] ∨ z = 1) (hz' : l' = [] ∨ z' = 1) (hl : l.length ≤ 1000000) (hl' : l'.length ≤ 1000000) (hr : ∀ j, j < l.length → (l.getD j ([], none)).1.length ≤ 1000000) (hr' : ∀ j, j < l'.length → (l'.getD j ([], none)).1.length ≤ 1000000) : PC Tryz.prog G0 46 [.agg [.int .i64 i, .int .i64 o, .sl z (kb0 l) c], .agg [.int .i64 i', .int .i64 o', .sl z' (kb0 l') c']] (.bool (vct9 i o l i' o' l')) := by
 have h1 := wbu9 i o l z c hz hl hr;have h2 := wbu9 i' o' l' z' c' hz' hl' hr';have h3 := kbw9 z l c z' l' c' hz hz' hl hl' hr hr';have hi1 : ∀ p, idsE p (kb0 l) = true := fun p => we0 p _;have hi2 : ∀ p, idsE p (kb0 l') = true := fun p => we0 p _;unfold vct9;generalize kb0 l = X at *;generalize kb0 l' = Y at *;generalize zk0 i o l = m1 at *;generalize zk0 i' o' l' = m2 at *;generalize decide (edgesOf l = edgesOf l') = b at *;refine wb0 0 34 [.tmp 4] Tryz.func46 rfl rfl rfl (by simp) ?_;intro s ⟨a0, a1, hz⟩;simp only [l'g, Nat.reduceAdd] at a1;clear hz;repeat' (first|refine nv ?_|(with_reducible first|refine gG ?_ ?_|refine ⟨fun h => ?_, fun h => ?_⟩ <;> try omega|refine andG ?_)|refine cp h1 ?_ (hi := by (simp [idsL, idsE, AV.ids, hi1, hi2]))|refine cp h2 ?_ (hi := by (simp [idsL, idsE, AV.ids, hi1, hi2]))|refine cp h3 ?_ (hi := by (simp [idsL, idsE, AV.ids, hi1, hi2]))|simp (disch := try exact discB) only [push_cast, simprocAttr, a0, a1, en90])
def kct9 (x y : GS) : Bool := decide (chkS x = 0) && decide (chkS y = 0) && decide (x.nm = y.nm) && vct9 x.i x.o x.rows y.i y.o y.rows && decide (x.ins = y.ins) && decide (x.outs = y.outs) && decide (x.sts = y.sts)
theorem qcu9 (x y : GS) (hx : x.Ok) (hy : y.Ok) : PC Tryz.prog G0 13 [.agg x.A, .agg y.A] (.bool (kct9 x y)) := by
 have h1 := vV0 x hx;have h2 := vV0 y hy;have h3 := xdM9 x.i x.o x.rows x.zr x.cr y.i y.o y.rows y.zr y.cr hx.r hy.r hx.lr hy.lr hx.lw hy.lw;have h4 := vbw9 x.zi x.ins x.ci y.zi y.ins y.ci hx.i hy.i hx.li hy.li;have h5 := vbw9 x.zo x.outs x.co y.zo y.outs y.co hx.o hy.o hx.lo hy.lo;have h6 := vbw9 x.zs x.sts x.cs y.zs y.sts y.cs hx.s hy.s hx.ls hy.ls;have hi1 : ∀ p, idsE p (kb0 x.rows) = true := fun p => we0 p _;have hi2 : ∀ p, idsE p (kb0 y.rows) = true := fun p => we0 p _;have hi3 : ∀ p, idsE p (strs x.ins) = true := fun p => xa0 p _;have hi4 : ∀ p, idsE p (strs y.ins) = true := fun p => xa0 p _;have hi5 : ∀ p, idsE p (strs x.outs) = true := fun p => xa0 p _;have hi6 : ∀ p, idsE p (strs y.outs) = true := fun p => xa0 p _;have hi7 : ∀ p, idsE p (strs x.sts) = true := fun p => xa0 p _;have hi8 : ∀ p, idsE p (strs y.sts) = true := fun p => xa0 p _;unfold kct9;unfold GS.A at *;generalize vct9 x.i x.o x.rows y.i y.o y.rows = b3 at *;generalize decide (x.ins = y.ins) = b4 at *;generalize decide (x.outs = y.outs) = b5 at *;generalize decide (x.sts = y.sts) = b6 at *;generalize chkS x = m1 at *;generalize chkS y = m2 at *;generalize kb0 x.rows = X1 at *;generalize kb0 y.rows = X2 at *;generalize strs x.ins = X3 at *;generalize strs y.ins = X4 at *;generalize strs x.outs = X5 at *;generalize strs y.outs = X6 at *;generalize strs x.sts = X7 at *;generalize strs y.sts = X8 at *;refine wb0 0 48 [.tmp 4] Tryz.func13 rfl rfl rfl (by simp) ?_;intro s ⟨a0, a1, hz⟩;simp only [l'g, Nat.reduceAdd] at a1;clear hz;repeat' (first|refine nv ?_|(with_reducible first|refine gG ?_ ?_|refine ⟨fun h => ?_, fun h => ?_⟩ <;> try omega|refine andG ?_)|refine cp h1 ?_ (hi := by (simp [idsL, idsE, AV.ids, hi1, hi2, hi3, hi4, hi5, hi6, hi7, hi8]))|refine cp h2 ?_ (hi := by (simp [idsL, idsE, AV.ids, hi1, hi2, hi3, hi4, hi5, hi6, hi7, hi8]))|refine cp h3 ?_ (hi := by (simp [idsL, idsE, AV.ids, hi1, hi2, hi3, hi4, hi5, hi6, hi7, hi8]))|refine cp h4 ?_ (hi := by (simp [idsL, idsE, AV.ids, hi1, hi2, hi3, hi4, hi5, hi6, hi7, hi8]))|refine cp h5 ?_ (hi := by (simp [idsL, idsE, AV.ids, hi1, hi2, hi3, hi4, hi5, hi6, hi7, hi8]))|refine cp h6 ?_ (hi := by (simp [idsL, idsE, AV.ids, hi1, hi2, hi3, hi4, hi5, hi6, hi7, hi8]))|simp (disch := try exact discB) only [push_cast, simprocAttr, a0, a1])
end Go.Proofs
namespace Go.Proofs
open Go Go.V Go.RowKit
set_option linter.unusedVariables false
set_option linter.unusedSimpArgs false
set_option maxHeartbeats 0
def byt (s : List UInt8) : List (List AV) := s.map fun b => [.int .u8 b.toNat]
theorem vy0 (s : List UInt8) : (byt s).length = s.length := by simp [byt]
theorem wak9 (s t : List UInt8) : byt s ++ byt t = byt (s ++ t) := by simp [byt]
theorem xbH9 (s : List UInt8) : (s.map fun b => [AV.int .u8 b.toNat]) = byt s := rfl
theorem wbH9 {S : St} {H : List Blk} {b s o : Nat} {t : TypeId} {es : List (List AV)} {v : Value} (hok : S.Ok H) (hb : H[b]? = some (.row s t es)) (h : Rel (S.env H) (.ptr b 0 o es.length) v) : ∃ g k cs, v = .pointer (some ⟨g, o, none⟩) ∧ S.μ b = some (g, k) ∧ S.M g = none ∧ S.w.heap[g]? = some (.cells cs t (0, 0)) ∧ cs.size = k * s ∧ es.length ≤ k ∧ k ≤ maxLen ∧ RowIn (S.env H) s es cs := by
 obtain ⟨s', g, k, hs, hg, hv⟩ := wC0 h (by simp [vg0, xl0 hb]);rw [xl0 hb] at hs; injection hs with hs; injection hs with e1 e2; subst e1
 obtain ⟨g0, k0, cs, q1, q2, q3, q4, q5, q6, q7⟩ := (hok.row b s t es hb).resolve_left (fun q => by rw [q.1] at hg; cases hg);rw [hg] at q1; injection q1 with q1; injection q1 with e1 e3; subst e1; subst e3
 exact ⟨g, k, cs, by simpa using hv, hg, q2, q3, q4, q5, q6, q7⟩
theorem xdv9 {H : List Blk} {b : Nat} {Y : AV} (hb : H[b]? = some (.row 2 89 [[.ptr b 0 0 1, Y]])) : qb0 Tryz.prog G0 91 [.ptr b 0 0 1] H (.tup []) H := fun S vals hok hG ha => by
 simp only [RelL] at ha;obtain ⟨v, _, rfl, hv, rfl⟩ := ha;obtain ⟨g, k, cs, rfl, hg, q2, q3, q4, q5, q6, q7⟩ := wbH9 hok hb hv;obtain ⟨l1, l2⟩ := q7 0 _ rfl;obtain ⟨u, hu, ho, hr⟩ := l2 0 _ rfl;obtain ⟨g', k', cs', rfl, hg', _⟩ := wbH9 hok hb hr;rw [hg] at hg'; injection hg' with hg'; injection hg' with e1 e2; subst e1; subst e2
 have hu : cs[0]? = some (.pointer (some ⟨g, 0, none⟩)) := by simpa using hu
 refine (xaG9 g S.w (by simp [World.cell?, q3, hu])).mono fun e w' ⟨he, hw⟩ => ?_;subst hw;exact ⟨_, S, he, rfl, hok, Ext.refl _ _ _, by simp [Rel, RelL]⟩
theorem qcU9 {H : List Blk} {b : Nat} {Y : AV} (hb : H[b]? = some (.row 2 89 [[.lit (.pointer none), Y]])) : qb0 Tryz.prog G0 91 [.ptr b 0 0 1] H (.tup []) (H.set b (.row 2 89 [[.ptr b 0 0 1, Y]])) := fun S vals hok hG ha => by
 simp only [RelL] at ha;obtain ⟨v, _, rfl, hv, rfl⟩ := ha;have hvp := hv;obtain ⟨g, k, cs, rfl, hg, q2, q3, q4, q5, q6, q7⟩ := wbH9 hok hb hv;obtain ⟨l1, l2⟩ := q7 0 _ rfl;obtain ⟨u, hu, ho, hr⟩ := l2 0 _ rfl;obtain rfl : u = .pointer none := by simpa [Rel] using hr
 have hu : cs[0]? = some (.pointer none) := by simpa using hu
 obtain ⟨k, rfl⟩ : ∃ k', k = k' + 1 := ⟨k - 1, by have : 1 ≤ k := q5; omega⟩;refine (xaz9 g k S.w (by simp [World.cell?, q3, hu]) (by simp [World.shape?, q3, q4]) (by simp [World.frozen?, q3])).mono fun e w' ⟨he, hw⟩ => ?_;rw [setCell_eq_setRow S.w g 0 cs 89 (0, 0) _ q3] at hw;have hext := qag9 hok (cs.setIfInBounds 0 (.pointer (some ⟨g, 0, none⟩))) hb hg (es' := [[.ptr b 0 0 1, Y]]) (by simp) (cs := cs);have hrow : RowIn (S.env H) 2 [[.ptr b 0 0 1, Y]] (cs.setIfInBounds 0 (.pointer (some ⟨g, 0, none⟩))) := fun i e' hi => by
  cases i with
  | succ i => simp at hi
  | zero =>
   simp at hi; subst hi;refine ⟨rfl, fun j a hj => ?_⟩;cases j with
   | zero =>
    simp at hj; subst hj;have hsz : 0 < cs.size := by rw [q4]; omega
    exact ⟨_, by simp [hsz], rfl, hvp⟩
   | succ j =>
    obtain ⟨u', hu', ho', hr'⟩ := l2 (j + 1) a (by simpa using hj);refine ⟨u', ?_, ho', hr'⟩;rw [Array.getElem?_setIfInBounds_ne (by omega)];exact hu'
 refine ⟨_, S.put g (cs.setIfInBounds 0 (.pointer (some ⟨g, 0, none⟩))), he, hw.symm, zba9 hok hb hg (by simp) (by simp) (by simpa using q4) hrow, hext, by simp [Rel, RelL]⟩
def bldB (A : AV) (n : Nat) : Blk := .row 2 89 [[A, .own 2 n n none]]
set_option maxRecDepth 100000 in
theorem kV0 (s : List UInt8) (B0 : Blk) (K : List Blk) (hs : s.length ≤ 1000000) : qb0 Tryz.prog G0 49 [.ptr 1 0 0 1, .str s] (B0 :: bldB (.lit (.pointer none)) 0 :: .row 1 5 [] :: K) (.tup [.int .i64 s.length, .lit .nilIface]) (B0 :: bldB (.ptr 1 0 0 1) s.length :: .row 1 5 (byt s) :: K) := by
 have hC := qcU9 (H := B0 :: bldB (.lit (.pointer none)) 0 :: .row 1 5 [] :: K) (b := 1) rfl;unfold bldB at *;refine zp0 19 [.tmp 4, .tmp 5] Tryz.func49 rfl rfl rfl (by simp) ?_;intro s ⟨a0, a1, hz⟩;simp only [l'g, Nat.reduceAdd] at a1;clear hz;repeat' (first|refine nv ?_|(with_reducible first|refine gG ?_ ?_|refine ⟨fun h => ?_, fun h => ?_⟩ <;> try omega|refine andG ?_)|refine cl hC ?_|simp (disch := try exact discB) only [push_cast, simprocAttr, a0, a1, xbH9, vy0])
 all_goals first|exact va0|fail
set_option maxRecDepth 100000 in
theorem xaV9 (t s : List UInt8) (B0 : Blk) (K : List Blk) (hs : t.length + s.length ≤ 100000000) : qb0 Tryz.prog G0 49 [.ptr 1 0 0 1, .str s] (B0 :: bldB (.ptr 1 0 0 1) t.length :: .row 1 5 (byt t) :: K) (.tup [.int .i64 s.length, .lit .nilIface]) (B0 :: bldB (.ptr 1 0 0 1) (t ++ s).length :: .row 1 5 (byt (t ++ s)) :: K) := by
 have hC := xdv9 (H := B0 :: bldB (.ptr 1 0 0 1) t.length :: .row 1 5 (byt t) :: K) (b := 1) rfl;unfold bldB at *;have e1 : (byt t).take t.length = byt t := l'y (by rw [vy0]; omega);have e2 : (byt t).drop (t.length + s.length) = [] := l'M (by rw [vy0]; omega);refine zp0 19 [.tmp 4, .tmp 5] Tryz.func49 rfl rfl rfl (by simp) ?_;intro s ⟨a0, a1, hz⟩;simp only [l'g, Nat.reduceAdd] at a1;clear hz;repeat' (first|refine nv ?_|(with_reducible first|refine gG ?_ ?_|refine ⟨fun h => ?_, fun h => ?_⟩ <;> try omega|refine andG ?_)|refine cl hC ?_|simp (disch := try exact discB) only [push_cast, simprocAttr, a0, a1, xbH9, vy0, e1, e2, wak9])
 try refine ⟨by first|exact va0|fail, ?_⟩
 all_goals first|omega|(simp [wak9, e1, e2]; done)|(simp [wak9, e1, e2]; omega)
theorem zcU9 (t : List UInt8) (B0 : Blk) (h0 : t ≠ []) (ht : t.length ≤ 100000000) : qb0 Tryz.prog G0 52 [.ptr 1 0 0 1] [B0, bldB (.ptr 1 0 0 1) t.length, .row 1 5 (byt t)] (.str t) [B0, bldB (.ptr 1 0 0 1) t.length, zc0 1 t.length] := fun S vals hok hG ha => by
 simp only [RelL] at ha;obtain ⟨v, _, rfl, hv, rfl⟩ := ha;obtain ⟨g, k, cs, rfl, hg, q2, q3, q4, q5, q6, q7⟩ := wbH9 hok (b := 1) (es := [[.ptr 1 0 0 1, .own 2 t.length t.length none]]) rfl hv;obtain ⟨l1, l2⟩ := q7 0 _ rfl;obtain ⟨u, hu, ho, hr⟩ := l2 1 _ rfl;obtain ⟨s', hs', hn, hcase⟩ := kp0 hr (by simp [vg0, shOf, byt]);have hlen : t.length ≠ 0 := fun h => h0 (l'C h);rcases hcase with ⟨_, _, q, _⟩|⟨g2, k2, cap, hg2, rfl, hncap, hcapk, hcn, hcs⟩
 ·exact absurd q hlen
 ·have hb2 : ([B0, bldB (.ptr 1 0 0 1) t.length, .row 1 5 (byt t)] : List Blk)[2]? = some (.row 1 5 (byt t)) := rfl;have hg2 : S.μ 2 = some (g2, k2) := hg2;obtain ⟨g0, k0, cs2, r1, r2, r3, r4, r5, r6, r7⟩ := (hok.row 2 1 5 (byt t) hb2).resolve_left (fun q => by rw [q.1] at hg2; cases hg2);rw [hg2] at r1; injection r1 with r1; injection r1 with e1 e3; subst e1; subst e3
  have hne : g ≠ g2 := fun e => by
   have := hok.inj 1 2 g (by simp [St.at, bldB, hg]) (by simp [St.at, hg2, e]);cases this
  refine (waG9 g g2 cap cs2 t S.w h0 (by simpa [World.cell?, q3] using hu) r3 (by omega) (by omega) (by omega) fun j x hj => ?_).mono fun e w' ⟨he, hw⟩ => ?_
  ·obtain ⟨m1, m2⟩ := r7 j [.int .u8 x.toNat] (by simp [byt, hj]);obtain ⟨u2, hu2, _, hr2⟩ := m2 0 _ rfl;obtain rfl : u2 = .int .u8 x.toNat := by simpa [Rel] using hr2
   simpa using hu2
  ·obtain ⟨d1, d2, d3, d4, d5⟩ := zaT9 hb2 hok;have hH : ([B0, bldB (.ptr 1 0 0 1) t.length, .row 1 5 (byt t)] : List Blk).set 2 (zc0 1 (byt t).length) = [B0, bldB (.ptr 1 0 0 1) t.length, zc0 1 t.length] := by simp [vy0]
   rw [hH] at d1 d2 d3 d4 d5;have hheap : ∀ q, q ≠ g2 → w'.heap[q]? = S.w.heap[q]? := fun q hq => by
    rw [hw, World.freeze, if_neg hlen];simp only [Array.getElem?_modify, if_neg (n'o hq)];rfl
   have hnot : ∀ x, (S.dead 2).at [B0, bldB (.ptr 1 0 0 1) t.length, zc0 1 t.length] x ≠ some g2 := fun x hx => by
    obtain ⟨p1, p2⟩ := d3 x g2 hx;exact p1 (hok.inj x 2 g2 p2 (by simp [St.at, hg2]))
   have hsize : w'.heap.size = S.w.heap.size := by
    rw [hw, World.freeze, if_neg hlen];exact Array.size_modify ..
   let S' : St := { S.dead 2 with w := w' }
   refine ⟨_, S', he, rfl, ⟨fun q o hq => ?_, fun x s1 t1 es1 hx => ?_, fun x o hx => ?_, d1.inj⟩, ⟨?_, ?_, ?_, Nat.le_of_eq hsize.symm, fun q hq hno => hheap q fun e => hno ⟨2, by simp [St.at, hg2, e]⟩, fun q o hq => hq, fun q hq => .inl hq, fun q hq => (d5 0).own q hq, fun x s1 cur hx hs => (d5 3).sh x s1 cur hx hs, fun x g' hx hs => (d5 3).ν x g' hx hs, fun _ => by simp⟩, by simp [Rel]⟩
   ·have hne2 : q ≠ g2 := fun e => by
     have hq : S.M q = some o := hq;rw [e, r2] at hq; cases hq
    exact (hheap q hne2).trans (hok.imm q o hq)
   ·rcases d1.row x s1 t1 es1 hx with q|⟨g', k', cs', p1, p2, p3, p4, p5, p6, p7⟩
    ·exact .inl q
    ·have hgg : g' ≠ g2 := fun e => hnot x (by simp only [St.at, hx, p1]; rw [e]; rfl);exact .inr ⟨g', k', cs', p1, p2, (hheap g' hgg).trans p3, p4, p5, p6, p7⟩
   ·obtain ⟨g', ob1, p1, p2, p3, p4⟩ := d1.ob x o hx;have hgg : g' ≠ g2 := fun e => hnot x (by simp only [St.at, hx, p1, e]);exact ⟨g', ob1, p1, p2, (hheap g' hgg).trans p3, p4⟩
   ·show w'.os = S.w.os; rw [hw, World.freeze, if_neg hlen]; rfl
   ·show w'.tape = S.w.tape; rw [hw, World.freeze, if_neg hlen]; rfl
   ·show w'.output = S.w.output; rw [hw, World.freeze, if_neg hlen]; rfl
end Go.Proofs
namespace Go.Proofs
open Go Go.V
set_option linter.unusedVariables false
set_option linter.unusedSimpArgs false
set_option maxHeartbeats 0
set_option maxRecDepth 100000
def lnL (l : List Bs) : Bs := Lib.join l [32] ++ [59, 10]
theorem vaM9 (l : List Bs) (c : Option Nat) (t : Bs) (B0 P0 : Blk) (K : List Blk) (hl : l.length ≤ 1000000) (hj : (lnL l).length ≤ 1000000) (ht : t.length ≤ 1000000)
  (hP : (P0 = bldB (.ptr 1 0 0 1) t.length) ∨ (P0 = bldB (.lit (.pointer none)) 0 ∧ t = [])) :
  qb0 Tryz.prog G0 48 [.sl 1 (strs l) c, .ptr 1 0 0 1] (B0 :: P0 :: .row 1 5 (byt t) :: K) (.tup []) (B0 :: bldB (.ptr 1 0 0 1) (t ++ lnL l).length :: .row 1 5 (byt (t ++ lnL l)) :: K) := by
 have hid : ∀ p, idsE p (strs l) = true := fun p => xa0 _ _;have hJ := fun H => kbi9 H (.sl 1 (strs l) c) l [32] (.inl ⟨c, rfl⟩) (by simp only [lnL, l'i] at hj; omega) (by omega);have hW : qb0 Tryz.prog G0 49 [.ptr 1 0 0 1, .str (Lib.join l [32] ++ [59, 10])] (B0 :: P0 :: .row 1 5 (byt t) :: K) (.tup [.int .i64 (lnL l).length, .lit .nilIface]) (B0 :: bldB (.ptr 1 0 0 1) (t ++ lnL l).length :: .row 1 5 (byt (t ++ lnL l)) :: K) := by
  rw [show Lib.join l [32] ++ [59, 10] = lnL l from rfl];rcases hP with rfl|⟨rfl, rfl⟩
  ·exact xaV9 t (lnL l) B0 K (by omega)
  ·exact kV0 (lnL l) B0 K hj
 have hjl : (Lib.join l [32]).length + 2 ≤ 1000000 := by simpa [lnL] using hj
 generalize bldB (.ptr 1 0 0 1) (t ++ lnL l).length = B1 at *;generalize (lnL l).length = n at *;generalize byt (t ++ lnL l) = Y at *;generalize byt t = X at *;generalize Lib.join l [32] = J at *;generalize strs l = L at *;refine zp0 7 [] Tryz.func48 rfl rfl rfl (by simp) ?_;intro s ⟨a0, a1, hz⟩;simp only [l'g, Nat.reduceAdd] at a1;clear hz;repeat' (first|refine nv ?_|(with_reducible first|refine gG ?_ ?_|refine ⟨fun h => ?_, fun h => ?_⟩ <;> try omega|refine andG ?_)|refine cl ((hJ _)) ?_|refine cl hW ?_|simp (disch := try exact discB) only [push_cast, simprocAttr, a0, a1])
theorem zcu9 (m : Nat) : ∀ (l : List Bs), (∀ s ∈ l, s.length ≤ m) → Lib.lens l ≤ l.length * m
 | [], _ => by simp [Lib.lens]
 | x :: r, h => by
  have h1 := h x l'm;have h2 := zcu9 m r fun s hs => h s (l'v _ hs);simp only [Lib.lens, List.map_cons, List.sum_cons, List.length_cons, Nat.succ_mul] at *;omega
theorem qas9 (m : Nat) (sep : Bs) (l : List Bs) (h : ∀ s ∈ l, s.length ≤ m) : (Lib.join l sep).length ≤ l.length * (m + sep.length) := by
 cases l with
 | nil => simp [Lib.join_nil]
 | cons x r =>
  have h1 := h x l'm;have h2 := zcu9 m r fun s hs => h s (l'v _ hs);rw [Lib.join_cons, l'i, Lib.joinTail_length, List.length_cons, Nat.succ_mul, Nat.mul_add, Nat.mul_comm sep.length];omega
theorem wdM9 (m : Nat) (l : List Bs) (h : ∀ s ∈ l, s.length ≤ m) : (lnL l).length ≤ l.length * (m + 1) + 2 := by
 have := qas9 m [32] l h;rw [show ([32] : Bs).length = 1 from rfl] at this;simp only [lnL, l'i, List.length_cons, List.length_nil];omega
def eLn (x : GS) (s i : Nat) (e : Edg) : Bs := if e.1 = -1 then [] else lnL [x.sts.getD s [], x.ins.getD i [], [47], x.outs.getD e.2.toNat [], [45, 62], x.sts.getD e.1.toNat []]
def GS.row (x : GS) (s : Nat) : List Edg := (x.rows.getD s ([], none)).1
def rowT (x : GS) (s k : Nat) : Bs := (List.range k).flatMap fun i => eLn x s i ((x.row s).getD i (0, 0))
def vao9 (x : GS) (s : Nat) : Bs := (List.range s).flatMap fun s => rowT x s (x.row s).length
def zn0 (x : GS) : Bs := lnL [kMac, x.nm] ++ lnL [kIns, Lib.join x.ins [44, 32]] ++ lnL [kk0, Lib.join x.outs [44, 32]] ++ lnL [kSts, Lib.join x.sts [44, 32]]
def qy0 (x : GS) : Bs := zn0 x ++ vao9 x x.rows.length ++ lnL [kEnd]
theorem vbj9 (x : GS) (s : Nat) : rowT x s 0 = [] := rfl
theorem kaM9 (x : GS) : vao9 x 0 = [] := rfl
theorem qad9 (x : GS) (s k : Nat) : rowT x s (k + 1) = rowT x s k ++ eLn x s k ((x.row s).getD k (0, 0)) := by rw [rowT, n'j, n'G]; simp [rowT]
theorem wP0 (x : GS) (s : Nat) : vao9 x (s + 1) = vao9 x s ++ rowT x s (x.row s).length := by rw [vao9, n'j, n'G]; simp [vao9]
theorem vbH9 {s : Bs} (h : nmB s = true) : 1 ≤ s.length ∧ s.length ≤ 16 := by
 unfold nmB at h;rw [l'a, decide_eq_true_eq, qL0] at h;obtain ⟨hk, hn⟩ := h.1;refine ⟨n'm.2 hn, ?_⟩;unfold tokS at hk;split at hk
 ·simp only [Prod.mk.injEq] at hk;obtain ⟨h1, h2, h3⟩ := hk;rw [← h2];unfold zB0 at h1;split at h1
  ·split at h1
   ·assumption
   ·simp at h1
  ·split at h1 <;> simp at h1
 ·split at hk <;> simp at hk
structure GS.V (x : GS) : Prop where
 m : zk0 x.i x.o x.rows = 0
 ci : (x.ins.length : Int) = x.i
 co : (x.outs.length : Int) = x.o
 cs : x.sts.length = x.rows.length
 nm : ∀ l ∈ x.lists, ∀ s ∈ l, nmB s = true
 nd : ∀ l ∈ x.lists, l.Nodup
theorem chkS_zero {x : GS} : chkS x = 0 ↔ x.V := by
 unfold chkS;constructor
 ·intro h;split at h
  ·rename_i q; exact absurd h q
  rename_i h0;split at h
  ·cases h
  rename_i h1;split at h
  ·cases h
  rename_i h2;split at h
  ·cases h
  rename_i h3;simp only [ne_eq, n'D] at h0;simp only [GS.cnt, l's, decide_eq_true_eq, not_or, ne_eq, n'D] at h1;refine ⟨h0, h1.1.1, h1.1.2, h1.2, fun l hl s hs => ?_, fun l hl => ?_⟩
  ·cases hb : nmB s with
   | true => rfl
   | false =>
    exfalso;apply h2;rw [l'H];exact ⟨l, hl, l'H.2 ⟨s, hs, by rw [hb]; rfl⟩⟩
  ·apply n'V;intro hn;apply h3;rw [l'H];exact ⟨l, hl, by simp [hn]⟩
 ·intro h;rw [if_neg (by rw [h.m]; simp), if_neg, if_neg, if_neg]
  ·rw [l'H];rintro ⟨l, hl, h2⟩;simp [h.nd l hl] at h2
  ·rw [l'H];rintro ⟨l, hl, h2⟩;rw [l'H] at h2;obtain ⟨s, hs, h2⟩ := h2;rw [h.nm l hl s hs] at h2; cases h2
  ·simp [GS.cnt, h.ci, h.co, h.cs]
theorem GS.V.len {x : GS} (h : x.V) : (∀ s ∈ x.ins, s.length ≤ 16) ∧ (∀ s ∈ x.outs, s.length ≤ 16) ∧ (∀ s ∈ x.sts, s.length ≤ 16) ∧ x.nm.length ≤ 16 := by
 have key : ∀ l ∈ x.lists, ∀ s ∈ l, s.length ≤ 16 := fun l hl s hs => (vbH9 (h.nm l hl s hs)).2;exact ⟨key _ (by simp [GS.lists]), key _ (by simp [GS.lists]), key _ (by simp [GS.lists]), key [x.nm] (by simp [GS.lists]) _ (by simp)⟩
theorem xH0 {l : List Bs} (h : ∀ s ∈ l, s.length ≤ 16) (k : Nat) : (l.getD k []).length ≤ 16 := by
 rcases l'h k l.length with q|q
 ·exact h _ (ze0 [] q)
 ·rw [l'b, l'p q]; simp
theorem xcu9 {x : GS} (h : x.V) (s i : Nat) (e : Edg) : (eLn x s i e).length ≤ 104 := by
 obtain ⟨h1, h2, h3, _⟩ := h.len;unfold eLn;split
 ·simp
 ·refine n'a (wdM9 16 _ fun s hs => ?_) (by simp);simp only [l'w, l'J, or_false] at hs;rcases hs with rfl|rfl|rfl|rfl|rfl|rfl
  ·exact xH0 h3 _
  ·exact xH0 h1 _
  ·decide
  ·exact xH0 h2 _
  ·decide
  ·exact xH0 h3 _
theorem qbx9 {x : GS} (h : x.V) (s : Nat) : ∀ k, (rowT x s k).length ≤ k * 104
 | 0 => by simp [vbj9]
 | k + 1 => by
  have := qbx9 h s k;have := xcu9 h s k ((x.row s).getD k (0, 0));rw [qad9, l'i]; omega
theorem zad9 {x : GS} (h : x.V) : ∀ s, s ≤ x.rows.length → (vao9 x s).length ≤ s * 1664
 | 0, _ => by simp [kaM9]
 | s + 1, hs => by
  have h1 := zad9 h s (by omega);have h2 := qbx9 h s (x.row s).length;have h3 := (vd0 h.m).2.2.2.1 s (by omega);have h4 := (vd0 h.m).1.2;have h5 : (x.row s).length ≤ 16 := by unfold GS.row; omega
  rw [wP0, l'i];omega
theorem qM0 (a b : Bs) (m : Nat) (ha : a.length ≤ 8) (hb : b.length ≤ m) : (lnL [a, b]).length ≤ m + 11 := by
 have : Lib.join [a, b] [32] = a ++ ([32] ++ b) := by rw [Lib.join_cons]; simp [Lib.joinTail]
 rw [lnL, this];simp only [l'i, List.length_cons, List.length_nil]; omega
theorem wm0 {l : List Bs} (h : ∀ s ∈ l, s.length ≤ 16) (n : Nat) (hn : l.length ≤ n) : (Lib.join l [44, 32]).length ≤ n * 18 := n'a (qas9 16 [44, 32] l h) (l'A _ hn)
theorem GS.V.cnts {x : GS} (h : x.V) : x.ins.length ≤ 16 ∧ x.outs.length ≤ 16 ∧ x.sts.length ≤ 64 ∧ 1 ≤ x.ins.length ∧ 1 ≤ x.outs.length ∧ 1 ≤ x.sts.length := by
 have := vd0 h.m;have := h.ci; have := h.co; have := h.cs
 omega
end Go.Proofs
