import Derived.Test.YtbgdagokjfmcbaaDoorDShelf
import Derived.Test.YtbgdagokjfmcbaaDoorD20
import Derived.Test.YtbgdagokjfmcbaaDoorD5
import Derived.Lib.ItoaLen
namespace Go.Proofs
open Go Go.V Go.RowKit
set_option linter.unusedVariables false
set_option linter.unusedSimpArgs false
set_option maxHeartbeats 0
def u8s (s : List UInt8) : List (List AV) := s.map fun b => [.int .u8 b.toNat]
theorem ze0 (s : List UInt8) : (u8s s).length = s.length := by simp [u8s]
theorem wcC9 (p : Nat → Bool) (s : List UInt8) : idsE p (u8s s) = true := zn0 _ _ fun x => by simp [idsL, AV.ids]
theorem waO9 (s : List UInt8) : (s.map fun b => [AV.int .u8 b.toNat]) = u8s s := rfl
theorem xbx9 {S : St} {H : List Blk} {b s o : Nat} {t : TypeId} {es : List (List AV)} {v : Value} (hok : S.Ok H) (hb : H[b]? = some (.row s t es)) (h : Rel (S.env H) (.ptr b 0 o es.length) v) : ∃ g k cs, v = .pointer (some ⟨g, o, none⟩) ∧ S.μ b = some (g, k) ∧ S.M g = none ∧ S.w.heap[g]? = some (.cells cs t (0, 0)) ∧ cs.size = k * s ∧ es.length ≤ k ∧ k ≤ maxLen ∧ RowIn (S.env H) s es cs := by
 obtain ⟨s', g, k, hs, hg, hv⟩ := kB0 h (by simp [zj0, qo0 hb]);rw [qo0 hb] at hs; injection hs with hs; injection hs with e1 e2; subst e1
 obtain ⟨g0, k0, cs, q1, q2, q3, q4, q5, q6, q7⟩ := (hok.row b s t es hb).resolve_left (fun q => by rw [q.1] at hg; cases hg);rw [hg] at q1; injection q1 with q1; injection q1 with e1 e3; subst e1; subst e3
 exact ⟨g, k, cs, by simpa using hv, hg, q2, q3, q4, q5, q6, q7⟩
theorem wce9 {H : List Blk} {b : Nat} {Y : AV} (hb : H[b]? = some (.row 2 129 [[.ptr b 0 0 1, Y]])) : qg0 Tryd.prog G0 89 [.ptr b 0 0 1] H (.tup []) H := fun S vals hok hG ha => by
 simp only [RelL] at ha;obtain ⟨v, _, rfl, hv, rfl⟩ := ha;obtain ⟨g, k, cs, rfl, hg, q2, q3, q4, q5, q6, q7⟩ := xbx9 hok hb hv;obtain ⟨l1, l2⟩ := q7 0 _ rfl;obtain ⟨u, hu, ho, hr⟩ := l2 0 _ rfl;obtain ⟨g', k', cs', rfl, hg', _⟩ := xbx9 hok hb hr;rw [hg] at hg'; injection hg' with hg'; injection hg' with e1 e2; subst e1; subst e2
 have hu : cs[0]? = some (.pointer (some ⟨g, 0, none⟩)) := by simpa using hu
 refine (zaA9 g S.w (by simp [World.cell?, q3, hu])).mono fun e w' ⟨he, hw⟩ => ?_;subst hw;exact ⟨_, S, he, rfl, hok, Ext.refl _ _ _, by simp [Rel, RelL]⟩
theorem vcC9 {H : List Blk} {b : Nat} {Y : AV} (hb : H[b]? = some (.row 2 129 [[.lit (.pointer none), Y]])) : qg0 Tryd.prog G0 89 [.ptr b 0 0 1] H (.tup []) (H.set b (.row 2 129 [[.ptr b 0 0 1, Y]])) := fun S vals hok hG ha => by
 simp only [RelL] at ha;obtain ⟨v, _, rfl, hv, rfl⟩ := ha;have hvp := hv;obtain ⟨g, k, cs, rfl, hg, q2, q3, q4, q5, q6, q7⟩ := xbx9 hok hb hv;obtain ⟨l1, l2⟩ := q7 0 _ rfl;obtain ⟨u, hu, ho, hr⟩ := l2 0 _ rfl;obtain rfl : u = .pointer none := by simpa [Rel] using hr
 have hu : cs[0]? = some (.pointer none) := by simpa using hu
 obtain ⟨k, rfl⟩ : ∃ k', k = k' + 1 := ⟨k - 1, by have : 1 ≤ k := q5; omega⟩;refine (kau9 g k S.w (by simp [World.cell?, q3, hu]) (by simp [World.shape?, q3, q4]) (by simp [World.frozen?, q3])).mono fun e w' ⟨he, hw⟩ => ?_;rw [setCell_eq_setRow S.w g 0 cs 129 (0, 0) _ q3] at hw;have hext := zaq9 hok (cs.setIfInBounds 0 (.pointer (some ⟨g, 0, none⟩))) hb hg (es' := [[.ptr b 0 0 1, Y]]) (by simp) (cs := cs);have hrow : RowIn (S.env H) 2 [[.ptr b 0 0 1, Y]] (cs.setIfInBounds 0 (.pointer (some ⟨g, 0, none⟩))) := fun i e' hi => by
  cases i with
  | succ i => simp at hi
  | zero =>
   simp at hi; subst hi;refine ⟨rfl, fun j a hj => ?_⟩;cases j with
   | zero =>
    simp at hj; subst hj;have hsz : 0 < cs.size := by rw [q4]; omega
    exact ⟨_, by simp [hsz], rfl, hvp⟩
   | succ j =>
    obtain ⟨u', hu', ho', hr'⟩ := l2 (j + 1) a (by simpa using hj);refine ⟨u', ?_, ho', hr'⟩;rw [Array.getElem?_setIfInBounds_ne (by omega)];exact hu'
 refine ⟨_, S.put g (cs.setIfInBounds 0 (.pointer (some ⟨g, 0, none⟩))), he, hw.symm, xbt9 hok hb hg (by simp) (by simp) (by simpa using q4) hrow, hext, by simp [Rel, RelL]⟩
def bldB (A : AV) (n : Nat) : Blk := .row 2 129 [[A, .own 2 n n none]]
set_option maxRecDepth 100000 in
theorem vV0 (s : List UInt8) (B0 : Blk) (K : List Blk) (hs : s.length ≤ 1000000) : qg0 Tryd.prog G0 75 [.ptr 1 0 0 1, .str s] (B0 :: bldB (.lit (.pointer none)) 0 :: .row 1 5 [] :: K) (.tup [.int .i64 s.length, .lit .nilIface]) (B0 :: bldB (.ptr 1 0 0 1) s.length :: .row 1 5 (u8s s) :: K) := by
 have hC := vcC9 (H := B0 :: bldB (.lit (.pointer none)) 0 :: .row 1 5 [] :: K) (b := 1) rfl;unfold bldB at *;refine vQ0 19 [.tmp 4, .tmp 5] Tryd.func75 rfl rfl rfl (by simp) ?_;intro s ⟨a0, a1, hz⟩;simp only [Nat.zero_add, Nat.reduceAdd] at a1;clear hz;repeat' (first|(first|(refine a0_ ?_; first|refine a1_ rfl rfl ?_|refine a2_ rfl ?_|refine a3_ rfl rfl ?_|refine a4_ rfl ?_|refine ak_ rfl rfl ?_|refine a5_ rfl rfl rfl ?_|refine a6_ rfl rfl ?_|refine a7_ rfl rfl ?_|refine a8_ rfl rfl ?_|refine a9_ rfl rfl rfl ?_)|(refine g0_ ?_; first|refine g1_ rfl ?_|refine g2_ rfl rfl ?_|refine wg0 (dr := allQ) rfl rfl mixed (by first|assumption|kernel_rfl) ?_|refine g4_ rfl ?_|refine g5_ rfl ?_|refine g6_ rfl ?_|refine g7_ rfl ?_|refine g8_ rfl ?_|refine ga_ rfl ?_|refine gb_ rfl ?_)|(refine o0_ ?_; first|refine o1_ ?_|refine o2_ ?_|refine o3_ ?_|refine o4_ ?_|refine o5_ ?_|refine o6_ rfl ?_|refine o7_ rfl ?_|refine o8_ ?_|refine o9_ ?_|refine oa_ ?_|refine ob_ ?_|refine oc_ ?_|refine od_ ?_|refine oe_ ?_|refine of_ ?_|refine og_ ?_|refine oh_ ?_|refine oi_ ?_|refine oj_ ?_|refine ok_ ?_))|refine at_go ?_|(with_reducible refine And.intro (at_go ?_) (at_go ?_))|((with_reducible refine And.intro (fun h => ?_) (fun h => ?_)) <;> try (exfalso; omega))|(with_reducible refine And.intro (by first|omega|(simp only [maxLen]; omega)) ?_)|(first|(refine ⟨_, _, hC, ?_⟩)|(refine ⟨_, hC, ?_⟩)|(refine ⟨_, fun _ => hC, ?_⟩))|simp (disch := first|omega|(simp only [ze0, xa0, List.length_set, List.length_reverse, List.length_replicate, List.length_append, List.length_cons, List.length_nil, List.length_map]; omega)) only [push_cast, simprocAttr, a0, a1, waO9, ze0])
 all_goals (first|trivial|((repeat' apply And.intro) <;> first|trivial|assumption|omega|(simp only [maxLen]; omega)|(simp only [ze0, xa0, List.length_replicate, List.length_append, List.length_cons, List.length_nil, List.length_map, List.length_take, List.length_drop, List.length_set, List.length_reverse, maxLen] <;> omega)))
set_option maxRecDepth 100000 in
theorem kab9 (t s : List UInt8) (B0 : Blk) (K : List Blk) (hs : t.length + s.length ≤ 100000000) : qg0 Tryd.prog G0 75 [.ptr 1 0 0 1, .str s] (B0 :: bldB (.ptr 1 0 0 1) t.length :: .row 1 5 (u8s t) :: K) (.tup [.int .i64 s.length, .lit .nilIface]) (B0 :: bldB (.ptr 1 0 0 1) (t ++ s).length :: .row 1 5 (u8s (t ++ s)) :: K) := by
 have hC := wce9 (H := B0 :: bldB (.ptr 1 0 0 1) t.length :: .row 1 5 (u8s t) :: K) (b := 1) rfl;unfold bldB at *;refine vQ0 19 [.tmp 4, .tmp 5] Tryd.func75 rfl rfl rfl (by simp) ?_;intro s ⟨a0, a1, hz⟩;simp only [Nat.zero_add, Nat.reduceAdd] at a1;clear hz;repeat' (first|(first|(refine a0_ ?_; first|refine a1_ rfl rfl ?_|refine a2_ rfl ?_|refine a3_ rfl rfl ?_|refine a4_ rfl ?_|refine ak_ rfl rfl ?_|refine a5_ rfl rfl rfl ?_|refine a6_ rfl rfl ?_|refine a7_ rfl rfl ?_|refine a8_ rfl rfl ?_|refine a9_ rfl rfl rfl ?_)|(refine g0_ ?_; first|refine g1_ rfl ?_|refine g2_ rfl rfl ?_|refine wg0 (dr := allQ) rfl rfl mixed (by first|assumption|kernel_rfl) ?_|refine g4_ rfl ?_|refine g5_ rfl ?_|refine g6_ rfl ?_|refine g7_ rfl ?_|refine g8_ rfl ?_|refine ga_ rfl ?_|refine gb_ rfl ?_)|(refine o0_ ?_; first|refine o1_ ?_|refine o2_ ?_|refine o3_ ?_|refine o4_ ?_|refine o5_ ?_|refine o6_ rfl ?_|refine o7_ rfl ?_|refine o8_ ?_|refine o9_ ?_|refine oa_ ?_|refine ob_ ?_|refine oc_ ?_|refine od_ ?_|refine oe_ ?_|refine of_ ?_|refine og_ ?_|refine oh_ ?_|refine oi_ ?_|refine oj_ ?_|refine ok_ ?_))|refine at_go ?_|(with_reducible refine And.intro (at_go ?_) (at_go ?_))|((with_reducible refine And.intro (fun h => ?_) (fun h => ?_)) <;> try (exfalso; omega))|(with_reducible refine And.intro (by first|omega|(simp only [maxLen]; omega)) ?_)|(first|(refine ⟨_, _, hC, ?_⟩)|(refine ⟨_, hC, ?_⟩)|(refine ⟨_, fun _ => hC, ?_⟩))|simp (disch := first|omega|(simp only [ze0, xa0, List.length_set, List.length_reverse, List.length_replicate, List.length_append, List.length_cons, List.length_nil, List.length_map]; omega)) only [push_cast, simprocAttr, a0, a1, waO9, ze0])
 try refine ⟨by (first|trivial|((repeat' apply And.intro) <;> first|trivial|assumption|omega|(simp only [maxLen]; omega)|(simp only [ze0, xa0, List.length_replicate, List.length_append, List.length_cons, List.length_nil, List.length_map, List.length_take, List.length_drop, List.length_set, List.length_reverse, maxLen] <;> omega))), ?_⟩
 simp [u8s]
set_option maxRecDepth 100000 in
theorem xbp9 (t : List UInt8) (c : UInt8) (B0 : Blk) (K : List Blk) (hs : t.length ≤ 100000000) : qg0 Tryd.prog G0 77 [.ptr 1 0 0 1, .int .u8 c.toNat] (B0 :: bldB (.ptr 1 0 0 1) t.length :: .row 1 5 (u8s t) :: K) (.lit .nilIface) (B0 :: bldB (.ptr 1 0 0 1) (t ++ [c]).length :: .row 1 5 (u8s (t ++ [c])) :: K) := by
 have hC := wce9 (H := B0 :: bldB (.ptr 1 0 0 1) t.length :: .row 1 5 (u8s t) :: K) (b := 1) rfl;unfold bldB at *;refine vQ0 17 [.tmp 4] Tryd.func77 rfl rfl rfl (by simp) ?_;intro s ⟨a0, a1, hz⟩;simp only [Nat.zero_add, Nat.reduceAdd] at a1;clear hz;repeat' (first|(first|(refine a0_ ?_; first|refine a1_ rfl rfl ?_|refine a2_ rfl ?_|refine a3_ rfl rfl ?_|refine a4_ rfl ?_|refine ak_ rfl rfl ?_|refine a5_ rfl rfl rfl ?_|refine a6_ rfl rfl ?_|refine a7_ rfl rfl ?_|refine a8_ rfl rfl ?_|refine a9_ rfl rfl rfl ?_)|(refine g0_ ?_; first|refine g1_ rfl ?_|refine g2_ rfl rfl ?_|refine wg0 (dr := allQ) rfl rfl mixed (by first|assumption|kernel_rfl) ?_|refine g4_ rfl ?_|refine g5_ rfl ?_|refine g6_ rfl ?_|refine g7_ rfl ?_|refine g8_ rfl ?_|refine ga_ rfl ?_|refine gb_ rfl ?_)|(refine o0_ ?_; first|refine o1_ ?_|refine o2_ ?_|refine o3_ ?_|refine o4_ ?_|refine o5_ ?_|refine o6_ rfl ?_|refine o7_ rfl ?_|refine o8_ ?_|refine o9_ ?_|refine oa_ ?_|refine ob_ ?_|refine oc_ ?_|refine od_ ?_|refine oe_ ?_|refine of_ ?_|refine og_ ?_|refine oh_ ?_|refine oi_ ?_|refine oj_ ?_|refine ok_ ?_))|refine at_go ?_|(with_reducible refine And.intro (at_go ?_) (at_go ?_))|((with_reducible refine And.intro (fun h => ?_) (fun h => ?_)) <;> try (exfalso; omega))|(with_reducible refine And.intro (by first|omega|(simp only [maxLen]; omega)) ?_)|(first|(refine ⟨_, _, hC, ?_⟩)|(refine ⟨_, hC, ?_⟩)|(refine ⟨_, fun _ => hC, ?_⟩))|simp (disch := first|omega|(simp only [ze0, xa0, List.length_set, List.length_reverse, List.length_replicate, List.length_append, List.length_cons, List.length_nil, List.length_map]; omega)) only [push_cast, simprocAttr, a0, a1, waO9, ze0])
 try refine ⟨by (first|trivial|((repeat' apply And.intro) <;> first|trivial|assumption|omega|(simp only [maxLen]; omega)|(simp only [ze0, xa0, List.length_replicate, List.length_append, List.length_cons, List.length_nil, List.length_map, List.length_take, List.length_drop, List.length_set, List.length_reverse, maxLen] <;> omega))), ?_⟩
 simp [u8s]
theorem kcC9 (t : List UInt8) (B0 : Blk) (h0 : t ≠ []) (ht : t.length ≤ 100000000) : qg0 Tryd.prog G0 79 [.ptr 1 0 0 1] [B0, bldB (.ptr 1 0 0 1) t.length, .row 1 5 (u8s t)] (.str t) [B0, bldB (.ptr 1 0 0 1) t.length, zd0 1 t.length] := fun S vals hok hG ha => by
 simp only [RelL] at ha;obtain ⟨v, _, rfl, hv, rfl⟩ := ha;obtain ⟨g, k, cs, rfl, hg, q2, q3, q4, q5, q6, q7⟩ := xbx9 hok (b := 1) (es := [[.ptr 1 0 0 1, .own 2 t.length t.length none]]) rfl hv;obtain ⟨l1, l2⟩ := q7 0 _ rfl;obtain ⟨u, hu, ho, hr⟩ := l2 1 _ rfl;obtain ⟨s', hs', hn, hcase⟩ := qu0 hr (by simp [zj0, shOf, u8s]);have hlen : t.length ≠ 0 := fun h => h0 (List.eq_nil_of_length_eq_zero h);rcases hcase with ⟨_, _, q, _⟩|⟨g2, k2, cap, hg2, rfl, hncap, hcapk, hcn, hcs⟩
 ·exact absurd q hlen
 ·have hb2 : ([B0, bldB (.ptr 1 0 0 1) t.length, .row 1 5 (u8s t)] : List Blk)[2]? = some (.row 1 5 (u8s t)) := rfl;have hg2 : S.μ 2 = some (g2, k2) := hg2;obtain ⟨g0, k0, cs2, r1, r2, r3, r4, r5, r6, r7⟩ := (hok.row 2 1 5 (u8s t) hb2).resolve_left (fun q => by rw [q.1] at hg2; cases hg2);rw [hg2] at r1; injection r1 with r1; injection r1 with e1 e3; subst e1; subst e3
  have hne : g ≠ g2 := fun e => by
   have := hok.inj 1 2 g (by simp [St.at, bldB, hg]) (by simp [St.at, hg2, e]);cases this
  refine (xaA9 g g2 cap cs2 t S.w h0 (by simpa [World.cell?, q3] using hu) r3 (by omega) (by omega) (by omega) fun j x hj => ?_).mono fun e w' ⟨he, hw⟩ => ?_
  ·obtain ⟨m1, m2⟩ := r7 j [.int .u8 x.toNat] (by simp [u8s, hj]);obtain ⟨u2, hu2, _, hr2⟩ := m2 0 _ rfl;obtain rfl : u2 = .int .u8 x.toNat := by simpa [Rel] using hr2
   simpa using hu2
  ·obtain ⟨d1, d2, d3, d4, d5⟩ := xan9 hb2 hok;have hH : ([B0, bldB (.ptr 1 0 0 1) t.length, .row 1 5 (u8s t)] : List Blk).set 2 (zd0 1 (u8s t).length) = [B0, bldB (.ptr 1 0 0 1) t.length, zd0 1 t.length] := by simp [ze0]
   rw [hH] at d1 d2 d3 d4 d5;have hheap : ∀ q, q ≠ g2 → w'.heap[q]? = S.w.heap[q]? := fun q hq => by
    rw [hw, World.freeze, if_neg hlen];simp only [Array.getElem?_modify, if_neg (Ne.symm hq)];rfl
   have hnot : ∀ x, (S.dead 2).at [B0, bldB (.ptr 1 0 0 1) t.length, zd0 1 t.length] x ≠ some g2 := fun x hx => by
    obtain ⟨p1, p2⟩ := d3 x g2 hx;exact p1 (hok.inj x 2 g2 p2 (by simp [St.at, hg2]))
   have hsize : w'.heap.size = S.w.heap.size := by
    rw [hw, World.freeze, if_neg hlen];exact Array.size_modify ..
   let S' : St := { S.dead 2 with w := w' }
   refine ⟨_, S', he, rfl, ⟨fun q o hq => ?_, fun x s1 t1 es1 hx => ?_, fun x o hx => ?_, d1.inj⟩, ⟨?_, ?_, ?_, Nat.le_of_eq hsize.symm, fun q hq hno => hheap q fun e => hno ⟨2, by simp [St.at, hg2, e]⟩, fun q o hq => hq, fun q hq => .inl hq, fun q hq => (d5 0).own q hq, fun x s1 cur hx hs => (d5 3).sh x s1 cur hx hs, fun x g' hx hs => (d5 3).ν x g' hx hs, fun _ => by simp⟩, by simp [Rel]⟩
   ·have hne2 : q ≠ g2 := fun e => by
     have hq : S.M q = some o := hq;rw [e, r2] at hq; cases hq
    exact (hheap q hne2).trans (hok.imm q o hq)
   ·rcases d1.row x s1 t1 es1 hx with q|⟨g', k', cs', p1, p2, p3, p4, p5, p6, p7⟩
    ·exact .inl q
    ·have hgg : g' ≠ g2 := fun e => hnot x (by simp only [St.at, hx, p1]; rw [e]; rfl);exact .inr ⟨g', k', cs', p1, p2, (hheap g' hgg).trans p3, p4, p5, p6, p7⟩
   ·obtain ⟨g', ob1, p1, p2, p3, p4⟩ := d1.ob x o hx;have hgg : g' ≠ g2 := fun e => hnot x (by simp only [St.at, hx, p1, e]);exact ⟨g', ob1, p1, p2, (hheap g' hgg).trans p3, p4⟩
   ·show w'.os = S.w.os; rw [hw, World.freeze, if_neg hlen]; rfl
   ·show w'.tape = S.w.tape; rw [hw, World.freeze, if_neg hlen]; rfl
   ·show w'.output = S.w.output; rw [hw, World.freeze, if_neg hlen]; rfl
end Go.Proofs
namespace Go.Proofs
open Go Go.V
set_option linter.unusedVariables false
set_option linter.unusedSimpArgs false
set_option maxHeartbeats 0
theorem xbc9 : ∀ (xs ys : List Int), xs.length = ys.length → (lexI xs ys = 0 ↔ xs = ys)
 | [], [], _ => by simp [lexI]
 | [], _ :: _, h => by simp at h
 | _ :: _, [], h => by simp at h
 | x :: xs, y :: ys, h => by
  have ih := xbc9 xs ys (by simpa using h);rw [lexI];by_cases h1 : x < y
  ·rw [if_pos h1]; simp; omega
  ·rw [if_neg h1];by_cases h2 : y < x
   ·rw [if_pos h2]; simp; omega
   ·rw [if_neg h2, ih];have : x = y := by omega
    simp [this]
theorem wbc9 (xs ys : List Int) : cmpM xs ys = 0 ↔ xs = ys := by
 rw [cmpM];by_cases h1 : xs.length < ys.length
 ·rw [if_pos h1]; simp; intro h; rw [h] at h1; omega
 ·rw [if_neg h1];by_cases h2 : ys.length < xs.length
  ·rw [if_pos h2]; simp; intro h; rw [h] at h2; omega
  ·rw [if_neg h2]; exact xbc9 xs ys (by omega)
set_option maxRecDepth 100000 in
theorem vbc9 (xs ys : List Int) (z y : Nat) (c d : Option Nat) (hz : xs = [] ∨ z = 1) (hy : ys = [] ∨ y = 1) (hx : xs.length ≤ 1000000) (hl : ys.length ≤ 1000000) : PC Tryd.prog G0 66 [.sl z (ints xs) c, .sl y (ints ys) d] (.int .i64 (cmpM xs ys)) := by
 refine wf0 0 40 [.tmp 4] Tryd.func66 rfl rfl rfl (by simp) ?_;intro s ⟨a0, a1, hz⟩;simp only [Nat.zero_add, Nat.reduceAdd] at a1;clear hz;repeat' (first|refine nv ?_|(with_reducible first|refine gG ?_ ?_|refine ⟨fun h => ?_, fun h => ?_⟩ <;> try omega|refine andG ?_)|simp (disch := try exact qa0) only [push_cast, simprocAttr, a0, a1])
 ·rw [cmpM, if_pos (by omega)]
 ·rw [cmpM, if_neg (by omega), if_pos (by omega)]
 ·have hlen : xs.length = ys.length := by omega
  have hcm : cmpM xs ys = lexI xs ys := by rw [cmpM, if_neg (by omega), if_neg (by omega)]
  rw [hcm];refine go_loop rfl (fun mz s' H' => ∃ k : Nat, k ≤ xs.length ∧ mz = xs.length - k ∧ H' = [] ∧ s' 0 = .sl z (ints xs) c ∧ s' 1 = .sl y (ints ys) d ∧ s' 5 = .int .i64 k ∧ lexI xs ys = lexI (xs.drop k) (ys.drop k)) (m := xs.length) (by first|exact wb0|fail) (Weak.refl _ _) ⟨0, by omega, by omega, (by first|rfl|simp [List.drop_zero]), ?_⟩ ?_
  ·simp (disch := try exact qa0) only [push_cast, simprocAttr, a0, a1]
  ·rintro mz s' H' ⟨k, hk, rfl, rfl, b0, b1, b5, ik⟩;rcases Nat.lt_or_ge k xs.length with hlt|hge
   ·have hlt2 : k < ys.length := by omega
    obtain rfl := hz.resolve_left (by rintro rfl; simp at hlt);obtain rfl := hy.resolve_left (by rintro rfl; simp at hlt2);have e1 := wc0 xs k hlt;have e2 := wc0 ys k hlt2;rw [zab9 xs ys k hlt hlt2] at ik;generalize xs.getD k 0 = a at *;generalize ys.getD k 0 = b at *;repeat' (first|refine nv ?_|(with_reducible first|refine gG ?_ ?_|refine ⟨fun h => ?_, fun h => ?_⟩ <;> try omega|refine andG ?_)|simp (disch := try exact qa0) only [push_cast, simprocAttr, b0, b1, b5, e1, e2])
    ·rw [ik, if_pos h]
    ·rename_i h2;rw [ik, if_neg h2, if_pos h]
    ·rename_i h2;rw [if_neg (by omega), if_neg (by omega)] at ik;refine qb0 (xs.length - (k + 1)) (by omega) (by first|exact wb0|fail) ⟨k + 1, by omega, rfl, rfl, ?_⟩;simp (disch := try exact qa0) only [push_cast, simprocAttr, b0, b1, b5, e1, e2];exact ik
   ·obtain rfl : k = xs.length := by omega
    repeat' (first|refine nv ?_|(with_reducible first|refine gG ?_ ?_|refine ⟨fun h => ?_, fun h => ?_⟩ <;> try omega|refine andG ?_)|simp (disch := try exact qa0) only [push_cast, simprocAttr, b0, b1, b5])
    rw [ik, List.drop_length, hlen, List.drop_length]; rfl
def qA0 (l : List Wd) : List (List Int) := l.map (·.1)
theorem vB0 (l : List Wd) (k : Nat) : (qA0 l).getD k [] = (l.getD k wD).1 := by
 rw [qA0, List.getD_eq_getElem?_getD, List.getD_eq_getElem?_getD, List.getElem?_map];cases l[k]? <;> rfl
set_option maxRecDepth 100000 in
theorem vce9 (l r : List Wd) (z y : Nat) (c d : Option Nat) (hz : l = [] ∨ z = 1) (hy : r = [] ∨ y = 1) (hl : l.length ≤ 1000000) (hr : r.length ≤ 1000000) (sl : zbK9 l) (sr : zbK9 r) : PC Tryd.prog G0 31 [.sl z (wsA l) c, .sl y (wsA r) d] (.bool (decide (qA0 l = qA0 r))) := by
 refine wf0 0 27 [.tmp 4] Tryd.func31 rfl rfl rfl (by simp) ?_;intro s ⟨a0, a1, hz⟩;simp only [Nat.zero_add, Nat.reduceAdd] at a1;clear hz;repeat' (first|refine nv ?_|(with_reducible first|refine gG ?_ ?_|refine ⟨fun h => ?_, fun h => ?_⟩ <;> try omega|refine andG ?_)|simp (disch := try exact qa0) only [push_cast, simprocAttr, a0, a1])
 ·rw [decide_eq_false];intro hh;have := congrArg List.length hh;simp [qA0] at this;omega
 ·refine go_loop rfl (fun mz s' H' => ∃ k : Nat, k ≤ l.length ∧ mz = l.length - k ∧ H' = [] ∧ s' 0 = .sl z (wsA l) c ∧ s' 1 = .sl y (wsA r) d ∧ s' 5 = .int .i64 k ∧ ∀ j, j < k → (l.getD j wD).1 = (r.getD j wD).1) (m := l.length) (by first|exact wb0|fail) (Weak.refl _ _) ⟨0, by omega, by omega, (by first|rfl|simp [List.drop_zero]), ?_⟩ ?_
  ·simp (disch := try exact qa0) only [push_cast, simprocAttr, a0, a1];exact fun j hj => by omega
  ·rintro mz s' H' ⟨k, hk, rfl, rfl, b0, b1, b5, ik⟩;rcases Nat.lt_or_ge k l.length with hlt|hge
   ·have hlt2 : k < r.length := by omega
    obtain rfl := hz.resolve_left (by rintro rfl; simp at hlt);obtain rfl := hy.resolve_left (by rintro rfl; simp at hlt2);have e1 := wG0 l k hlt;have e2 := wG0 r k hlt2;have hC := vbc9 (l.getD k wD).1 (r.getD k wD).1 1 1 (l.getD k wD).2 (r.getD k wD).2 (.inr rfl) (.inr rfl) (sl k hlt) (sr k hlt2);have hs := zaN9 (P := fun j => (l.getD j wD).1 = (r.getD j wD).1) (k := k) ik;have hno : (l.getD k wD).1 ≠ (r.getD k wD).1 → qA0 l ≠ qA0 r := fun h hh => h (by rw [← vB0, ← vB0, hh]);have hcz := wbc9 (l.getD k wD).1 (r.getD k wD).1;generalize cmpM (l.getD k wD).1 (r.getD k wD).1 = e at *;generalize (l.getD k wD).1 = a at *;generalize (l.getD k wD).2 = ca at *;generalize (r.getD k wD).1 = b at *;generalize (r.getD k wD).2 = cb at *;repeat' (first|refine nv ?_|(with_reducible first|refine gG ?_ ?_|refine ⟨fun h => ?_, fun h => ?_⟩ <;> try omega|refine andG ?_)|refine cp_ hC ?_|simp (disch := try exact qa0) only [push_cast, simprocAttr, b0, b1, b5, e1, e2])
    ·rw [decide_eq_false (hno fun hh => h (hcz.2 hh))]
    ·refine qb0 (l.length - (k + 1)) (by omega) (by first|exact wb0|fail) ⟨k + 1, by omega, rfl, rfl, ?_⟩;simp (disch := try exact qa0) only [push_cast, simprocAttr, b0, b1, b5, e1, e2];exact hs (hcz.1 (by omega))
   ·obtain rfl : k = l.length := by omega
    repeat' (first|refine nv ?_|(with_reducible first|refine gG ?_ ?_|refine ⟨fun h => ?_, fun h => ?_⟩ <;> try omega|refine andG ?_)|refine cp_ hC ?_|simp (disch := try exact qa0) only [push_cast, simprocAttr, b0, b1, b5])
    rw [decide_eq_true];refine qab9 [] (by simp [qA0]; omega) fun j hj => ?_;rw [vB0, vB0];exact ik j (by simpa [qA0] using hj)
theorem kbc9 (n : Int) (h0 : -9223372036854775808 ≤ n) (h1 : n ≤ 9223372036854775807) (H : List Blk) : qg0 Tryd.prog G0 76 [.int .i64 n] H (.str (Lib.itoa n)) H :=
 qcX9 (g := 1) (by kernel_rfl) rfl (fun n h0 h1 w ht => Tryd.strconv_Itoa n h0 h1 w ht) n h0 h1
def zbL9 (e : Edg) : List UInt8 := if e = (-1, -1) then [45] else Lib.itoa e.1 ++ [47] ++ Lib.itoa e.2
set_option maxRecDepth 100000 in
theorem vcM9 (e : Edg) (h : (-1000000 ≤ e.1 ∧ e.1 ≤ 1000000) ∧ -1000000 ≤ e.2 ∧ e.2 ≤ 1000000) : PC Tryd.prog G0 78 [.agg (eA e)] (.str (zbL9 e)) := by
 obtain ⟨x, y⟩ := e;dsimp only at h;unfold eA;by_cases hh : x = -1 ∧ y = -1
 ·obtain ⟨rfl, rfl⟩ := hh;refine wf0 0 14 [.tmp 2] Tryd.func78 rfl rfl rfl (by simp) ?_;intro s ⟨a0, hz⟩;clear hz;repeat' (first|(first|(refine a0_ ?_; first|refine a1_ rfl rfl ?_|refine a2_ rfl ?_|refine a3_ rfl rfl ?_|refine a4_ rfl ?_|refine ak_ rfl rfl ?_|refine a5_ rfl rfl rfl ?_|refine a6_ rfl rfl ?_|refine a7_ rfl rfl ?_|refine a8_ rfl rfl ?_|refine a9_ rfl rfl rfl ?_)|(refine g0_ ?_; first|refine g1_ rfl ?_|refine g2_ rfl rfl ?_|refine wg0 (dr := allQ) rfl rfl mixed (by first|assumption|kernel_rfl) ?_|refine g4_ rfl ?_|refine g5_ rfl ?_|refine g6_ rfl ?_|refine g7_ rfl ?_|refine g8_ rfl ?_|refine ga_ rfl ?_|refine gb_ rfl ?_)|(refine o0_ ?_; first|refine o1_ ?_|refine o2_ ?_|refine o3_ ?_|refine o4_ ?_|refine o5_ ?_|refine o6_ rfl ?_|refine o7_ rfl ?_|refine o8_ ?_|refine o9_ ?_|refine oa_ ?_|refine ob_ ?_|refine oc_ ?_|refine od_ ?_|refine oe_ ?_|refine of_ ?_|refine og_ ?_|refine oh_ ?_|refine oi_ ?_|refine oj_ ?_|refine ok_ ?_))|refine at_go ?_|(with_reducible refine And.intro (at_go ?_) (at_go ?_))|((with_reducible refine And.intro (fun h => ?_) (fun h => ?_)) <;> try (exfalso; omega))|(with_reducible refine And.intro (by first|omega|(simp only [maxLen]; omega)) ?_)|simp (disch := first|omega|(simp only [ze0, xa0, List.length_set, List.length_reverse, List.length_replicate, List.length_append, List.length_cons, List.length_nil, List.length_map]; omega)) only [push_cast, simprocAttr, a0, evS, G0_0, Int.reduceNeg, Int.reduceEq])
  all_goals (try omega)
  rfl
 ·have hA : (decide (x = -1) && decide (y = -1)) = false := by simpa using hh
  have h1 := fun H => kbc9 x (by omega) (by omega) H;have h2 := fun H => kbc9 y (by omega) (by omega) H;rw [zbL9, if_neg (by simpa using hh)];have l1 := Lib.itoa_length_le x (by omega) (by omega);have l2 := Lib.itoa_length_le y (by omega) (by omega);refine wf0 0 14 [.tmp 2] Tryd.func78 rfl rfl rfl (by simp) ?_;intro s ⟨a0, hz⟩;clear hz;repeat' (first|(first|(refine a0_ ?_; first|refine a1_ rfl rfl ?_|refine a2_ rfl ?_|refine a3_ rfl rfl ?_|refine a4_ rfl ?_|refine ak_ rfl rfl ?_|refine a5_ rfl rfl rfl ?_|refine a6_ rfl rfl ?_|refine a7_ rfl rfl ?_|refine a8_ rfl rfl ?_|refine a9_ rfl rfl rfl ?_)|(refine g0_ ?_; first|refine g1_ rfl ?_|refine g2_ rfl rfl ?_|refine wg0 (dr := allQ) rfl rfl mixed (by first|assumption|kernel_rfl) ?_|refine g4_ rfl ?_|refine g5_ rfl ?_|refine g6_ rfl ?_|refine g7_ rfl ?_|refine g8_ rfl ?_|refine ga_ rfl ?_|refine gb_ rfl ?_)|(refine o0_ ?_; first|refine o1_ ?_|refine o2_ ?_|refine o3_ ?_|refine o4_ ?_|refine o5_ ?_|refine o6_ rfl ?_|refine o7_ rfl ?_|refine o8_ ?_|refine o9_ ?_|refine oa_ ?_|refine ob_ ?_|refine oc_ ?_|refine od_ ?_|refine oe_ ?_|refine of_ ?_|refine og_ ?_|refine oh_ ?_|refine oi_ ?_|refine oj_ ?_|refine ok_ ?_))|refine at_go ?_|(with_reducible refine And.intro (at_go ?_) (at_go ?_))|((with_reducible refine And.intro (fun h => ?_) (fun h => ?_)) <;> try (exfalso; omega))|(with_reducible refine And.intro (by first|omega|(simp only [maxLen]; omega)) ?_)|(first|(refine ⟨_, _, h1 _, ?_⟩)|(refine ⟨_, h1 _, ?_⟩)|(refine ⟨_, fun _ => h1 _, ?_⟩)|(refine ⟨_, _, h2 _, ?_⟩)|(refine ⟨_, h2 _, ?_⟩)|(refine ⟨_, fun _ => h2 _, ?_⟩))|simp (disch := first|omega|(simp only [ze0, xa0, List.length_set, List.length_reverse, List.length_replicate, List.length_append, List.length_cons, List.length_nil, List.length_map]; omega)) only [push_cast, simprocAttr, a0, evS, G0_0, hA, maxLen])
  omega
end Go.Proofs
