import Derived.Test.YtbgdagokjfmcbaaGreatDoorDC0
import Derived.Test.YtbgdagokjfmcbaaGreatDoorD20
namespace Go.Proofs
open Go Go.V Go.RowKit
set_option linter.unusedVariables false
set_option linter.unusedSimpArgs false
set_option maxHeartbeats 0
def u8s (s : List UInt8) : List (List AV) := s.map fun b => [.int .u8 b.toNat]
theorem length_u8s (s : List UInt8) : (u8s s).length = s.length := by simp [u8s]
theorem idsE_u8s (p : Nat → Bool) (s : List UInt8) : idsE p (u8s s) = true := idsE_map _ _ fun x => by simp [idsL, AV.ids]
theorem u8s_fold (s : List UInt8) : (s.map fun b => [AV.int .u8 b.toNat]) = u8s s := rfl
theorem own_at {S : St} {H : List Blk} {b s o : Nat} {t : TypeId} {es : List (List AV)} {v : Value} (hok : S.Ok H) (hb : H[b]? = some (.row s t es)) (h : Rel (S.env H) (.ptr b 0 o es.length) v) : ∃ g k cs, v = .pointer (some ⟨g, o, none⟩) ∧ S.μ b = some (g, k) ∧ S.M g = none ∧ S.w.heap[g]? = some (.cells cs t (0, 0)) ∧ cs.size = k * s ∧ es.length ≤ k ∧ k ≤ maxLen ∧ RowIn (S.env H) s es cs := by
 obtain ⟨s', g, k, hs, hg, hv⟩ := rel_ptr h (by simp [isLen, shOf_of hb])
 rw [shOf_of hb] at hs; injection hs with hs; injection hs with e1 e2; subst e1
 obtain ⟨g0, k0, cs, q1, q2, q3, q4, q5, q6, q7⟩ := (hok.row b s t es hb).resolve_left (fun q => by rw [q.1] at hg; cases hg)
 rw [hg] at q1; injection q1 with q1; injection q1 with e1 e3; subst e1; subst e3
 exact ⟨g, k, cs, by simpa using hv, hg, q2, q3, q4, q5, q6, q7⟩
theorem cc_used {H : List Blk} {b : Nat} {Y : AV} (hb : H[b]? = some (.row 2 66 [[.ptr b 0 0 1, Y]])) : ACalls Tryz.prog G0 48 [.ptr b 0 0 1] H (.tup []) H := fun S vals hok hG ha => by
 simp only [RelL] at ha
 obtain ⟨v, _, rfl, hv, rfl⟩ := ha
 obtain ⟨g, k, cs, rfl, hg, q2, q3, q4, q5, q6, q7⟩ := own_at hok hb hv
 obtain ⟨l1, l2⟩ := q7 0 _ rfl
 obtain ⟨u, hu, ho, hr⟩ := l2 0 _ rfl
 obtain ⟨g', k', cs', rfl, hg', _⟩ := own_at hok hb hr
 rw [hg] at hg'; injection hg' with hg'; injection hg' with e1 e2; subst e1; subst e2
 have hu : cs[0]? = some (.pointer (some ⟨g, 0, none⟩)) := by simpa using hu
 refine (copyCheck_used g S.w (by simp [World.cell?, q3, hu])).mono fun e w' ⟨he, hw⟩ => ?_
 subst hw
 exact ⟨_, S, he, rfl, hok, Ext.refl _ _ _, by simp [Rel, RelL]⟩
theorem cc_fresh {H : List Blk} {b : Nat} {Y : AV} (hb : H[b]? = some (.row 2 66 [[.lit (.pointer none), Y]])) : ACalls Tryz.prog G0 48 [.ptr b 0 0 1] H (.tup []) (H.set b (.row 2 66 [[.ptr b 0 0 1, Y]])) := fun S vals hok hG ha => by
 simp only [RelL] at ha
 obtain ⟨v, _, rfl, hv, rfl⟩ := ha
 have hvp := hv
 obtain ⟨g, k, cs, rfl, hg, q2, q3, q4, q5, q6, q7⟩ := own_at hok hb hv
 obtain ⟨l1, l2⟩ := q7 0 _ rfl
 obtain ⟨u, hu, ho, hr⟩ := l2 0 _ rfl
 obtain rfl : u = .pointer none := by simpa [Rel] using hr
 have hu : cs[0]? = some (.pointer none) := by simpa using hu
 obtain ⟨k, rfl⟩ : ∃ k', k = k' + 1 := ⟨k - 1, by have : 1 ≤ k := q5; omega⟩
 refine (copyCheck_fresh g k S.w (by simp [World.cell?, q3, hu]) (by simp [World.shape?, q3, q4]) (by simp [World.frozen?, q3])).mono fun e w' ⟨he, hw⟩ => ?_
 rw [setCell_eq_setRow S.w g 0 cs 66 (0, 0) _ q3] at hw
 have hext := put_ext hok (cs.setIfInBounds 0 (.pointer (some ⟨g, 0, none⟩))) hb hg (es' := [[.ptr b 0 0 1, Y]]) (by simp) (cs := cs)
 have hrow : RowIn (S.env H) 2 [[.ptr b 0 0 1, Y]] (cs.setIfInBounds 0 (.pointer (some ⟨g, 0, none⟩))) := fun i e' hi => by
  cases i with
  | succ i => simp at hi
  | zero =>
   simp at hi; subst hi
   refine ⟨rfl, fun j a hj => ?_⟩
   cases j with
   | zero =>
    simp at hj; subst hj
    have hsz : 0 < cs.size := by rw [q4]; omega
    exact ⟨_, by simp [hsz], rfl, hvp⟩
   | succ j =>
    obtain ⟨u', hu', ho', hr'⟩ := l2 (j + 1) a (by simpa using hj)
    refine ⟨u', ?_, ho', hr'⟩
    rw [Array.getElem?_setIfInBounds_ne (by omega)]
    exact hu'
 refine ⟨_, S.put g (cs.setIfInBounds 0 (.pointer (some ⟨g, 0, none⟩))), he, hw.symm, put_ok hok hb hg (by simp) (by simp) (by simpa using q4) hrow, hext, by simp [Rel, RelL]⟩
def bldB (A : AV) (n : Nat) : Blk := .row 2 66 [[A, .own 2 n n none]]
set_option maxRecDepth 100000 in
theorem writeString75_first (s : List UInt8) (B0 : Blk) (K : List Blk) (hs : s.length ≤ 1000000) : ACalls Tryz.prog G0 19 [.ptr 1 0 0 1, .str s] (B0 :: bldB (.lit (.pointer none)) 0 :: .row 1 5 [] :: K) (.tup [.int .i64 s.length, .lit .nilIface]) (B0 :: bldB (.ptr 1 0 0 1) s.length :: .row 1 5 (u8s s) :: K) := by
 have hC := cc_fresh (H := B0 :: bldB (.lit (.pointer none)) 0 :: .row 1 5 [] :: K) (b := 1) rfl
 unfold bldB at *
 refine ac_go 19 [.tmp 4, .tmp 5] Tryz.func19 rfl rfl rfl (by simp) ?_
 intro s ⟨a0, a1, hz⟩
 simp only [Nat.zero_add, Nat.reduceAdd] at a1
 clear hz
 repeat' (first|(first|(refine a0_ ?_; first|refine a1_ rfl rfl ?_|refine a2_ rfl ?_|refine a3_ rfl rfl ?_|refine a4_ rfl ?_|refine a5_ rfl rfl rfl ?_|refine a6_ rfl rfl ?_)|(refine g0_ ?_; first|refine g1_ rfl ?_|refine g2_ rfl rfl ?_|refine go_draw (dr := allQ) rfl rfl mixed (by first|assumption|kernel_rfl) ?_|refine g4_ rfl ?_|refine g5_ rfl ?_|refine g6_ rfl ?_|refine g7_ rfl ?_|refine g8_ rfl ?_)|(refine o0_ ?_; first|refine o1_ ?_|refine o2_ ?_|refine o3_ ?_|refine o4_ ?_|refine o5_ ?_|refine o6_ rfl ?_|refine o7_ rfl ?_|refine o8_ ?_|refine o9_ ?_|refine oa_ ?_|refine ob_ ?_|refine oc_ ?_|refine od_ ?_|refine oe_ ?_|refine of_ ?_|refine og_ ?_))|refine at_go ?_|(with_reducible refine And.intro (at_go ?_) (at_go ?_))|((with_reducible refine And.intro (fun h => ?_) (fun h => ?_)) <;> try (exfalso; omega))|(with_reducible refine And.intro (by first|omega|(simp only [maxLen]; omega)) ?_)|(first|(refine ⟨_, _, hC, ?_⟩)|(refine ⟨_, hC, ?_⟩)|(refine ⟨_, fun _ => hC, ?_⟩))|simp (disch := first|omega|(simp only [length_u8s, length_edsA, List.length_set, List.length_reverse, List.length_replicate, List.length_append, List.length_cons, List.length_nil, List.length_map]; omega)) only [push_cast, ↓reduceIte, reduceIte, reduceCtorEq, Nat.reduceAdd, Nat.reduceLT, Nat.reduceEqDiff, Nat.reduceLeDiff, Int.reduceAdd, Int.reduceLT, Int.reduceLE, Nat.reduceMul, a0, a1, u8s_fold, length_u8s])
 all_goals (first|trivial|((repeat' apply And.intro) <;> first|trivial|assumption|omega|(simp only [maxLen]; omega)|(simp only [length_u8s, length_edsA, List.length_replicate, List.length_append, List.length_cons, List.length_nil, List.length_map, List.length_take, List.length_drop, List.length_set, List.length_reverse, maxLen] <;> omega)))
set_option maxRecDepth 100000 in
theorem writeString75 (t s : List UInt8) (B0 : Blk) (K : List Blk) (hs : t.length + s.length ≤ 100000000) : ACalls Tryz.prog G0 19 [.ptr 1 0 0 1, .str s] (B0 :: bldB (.ptr 1 0 0 1) t.length :: .row 1 5 (u8s t) :: K) (.tup [.int .i64 s.length, .lit .nilIface]) (B0 :: bldB (.ptr 1 0 0 1) (t ++ s).length :: .row 1 5 (u8s (t ++ s)) :: K) := by
 have hC := cc_used (H := B0 :: bldB (.ptr 1 0 0 1) t.length :: .row 1 5 (u8s t) :: K) (b := 1) rfl
 unfold bldB at *
 refine ac_go 19 [.tmp 4, .tmp 5] Tryz.func19 rfl rfl rfl (by simp) ?_
 intro s ⟨a0, a1, hz⟩
 simp only [Nat.zero_add, Nat.reduceAdd] at a1
 clear hz
 repeat' (first|(first|(refine a0_ ?_; first|refine a1_ rfl rfl ?_|refine a2_ rfl ?_|refine a3_ rfl rfl ?_|refine a4_ rfl ?_|refine a5_ rfl rfl rfl ?_|refine a6_ rfl rfl ?_)|(refine g0_ ?_; first|refine g1_ rfl ?_|refine g2_ rfl rfl ?_|refine go_draw (dr := allQ) rfl rfl mixed (by first|assumption|kernel_rfl) ?_|refine g4_ rfl ?_|refine g5_ rfl ?_|refine g6_ rfl ?_|refine g7_ rfl ?_|refine g8_ rfl ?_)|(refine o0_ ?_; first|refine o1_ ?_|refine o2_ ?_|refine o3_ ?_|refine o4_ ?_|refine o5_ ?_|refine o6_ rfl ?_|refine o7_ rfl ?_|refine o8_ ?_|refine o9_ ?_|refine oa_ ?_|refine ob_ ?_|refine oc_ ?_|refine od_ ?_|refine oe_ ?_|refine of_ ?_|refine og_ ?_))|refine at_go ?_|(with_reducible refine And.intro (at_go ?_) (at_go ?_))|((with_reducible refine And.intro (fun h => ?_) (fun h => ?_)) <;> try (exfalso; omega))|(with_reducible refine And.intro (by first|omega|(simp only [maxLen]; omega)) ?_)|(first|(refine ⟨_, _, hC, ?_⟩)|(refine ⟨_, hC, ?_⟩)|(refine ⟨_, fun _ => hC, ?_⟩))|simp (disch := first|omega|(simp only [length_u8s, length_edsA, List.length_set, List.length_reverse, List.length_replicate, List.length_append, List.length_cons, List.length_nil, List.length_map]; omega)) only [push_cast, ↓reduceIte, reduceIte, reduceCtorEq, Nat.reduceAdd, Nat.reduceLT, Nat.reduceEqDiff, Nat.reduceLeDiff, Int.reduceAdd, Int.reduceLT, Int.reduceLE, Nat.reduceMul, a0, a1, u8s_fold, length_u8s])
 try refine ⟨by (first|trivial|((repeat' apply And.intro) <;> first|trivial|assumption|omega|(simp only [maxLen]; omega)|(simp only [length_u8s, length_edsA, List.length_replicate, List.length_append, List.length_cons, List.length_nil, List.length_map, List.length_take, List.length_drop, List.length_set, List.length_reverse, maxLen] <;> omega))), ?_⟩
 simp [u8s]
set_option maxRecDepth 100000 in
theorem writeByte77 (t : List UInt8) (c : UInt8) (B0 : Blk) (K : List Blk) (hs : t.length ≤ 100000000) : ACalls Tryz.prog G0 21 [.ptr 1 0 0 1, .int .u8 c.toNat] (B0 :: bldB (.ptr 1 0 0 1) t.length :: .row 1 5 (u8s t) :: K) (.lit .nilIface) (B0 :: bldB (.ptr 1 0 0 1) (t ++ [c]).length :: .row 1 5 (u8s (t ++ [c])) :: K) := by
 have hC := cc_used (H := B0 :: bldB (.ptr 1 0 0 1) t.length :: .row 1 5 (u8s t) :: K) (b := 1) rfl
 unfold bldB at *
 refine ac_go 17 [.tmp 4] Tryz.func21 rfl rfl rfl (by simp) ?_
 intro s ⟨a0, a1, hz⟩
 simp only [Nat.zero_add, Nat.reduceAdd] at a1
 clear hz
 repeat' (first|(first|(refine a0_ ?_; first|refine a1_ rfl rfl ?_|refine a2_ rfl ?_|refine a3_ rfl rfl ?_|refine a4_ rfl ?_|refine a5_ rfl rfl rfl ?_|refine a6_ rfl rfl ?_)|(refine g0_ ?_; first|refine g1_ rfl ?_|refine g2_ rfl rfl ?_|refine go_draw (dr := allQ) rfl rfl mixed (by first|assumption|kernel_rfl) ?_|refine g4_ rfl ?_|refine g5_ rfl ?_|refine g6_ rfl ?_|refine g7_ rfl ?_|refine g8_ rfl ?_)|(refine o0_ ?_; first|refine o1_ ?_|refine o2_ ?_|refine o3_ ?_|refine o4_ ?_|refine o5_ ?_|refine o6_ rfl ?_|refine o7_ rfl ?_|refine o8_ ?_|refine o9_ ?_|refine oa_ ?_|refine ob_ ?_|refine oc_ ?_|refine od_ ?_|refine oe_ ?_|refine of_ ?_|refine og_ ?_))|refine at_go ?_|(with_reducible refine And.intro (at_go ?_) (at_go ?_))|((with_reducible refine And.intro (fun h => ?_) (fun h => ?_)) <;> try (exfalso; omega))|(with_reducible refine And.intro (by first|omega|(simp only [maxLen]; omega)) ?_)|(first|(refine ⟨_, _, hC, ?_⟩)|(refine ⟨_, hC, ?_⟩)|(refine ⟨_, fun _ => hC, ?_⟩))|simp (disch := first|omega|(simp only [length_u8s, length_edsA, List.length_set, List.length_reverse, List.length_replicate, List.length_append, List.length_cons, List.length_nil, List.length_map]; omega)) only [push_cast, ↓reduceIte, reduceIte, reduceCtorEq, Nat.reduceAdd, Nat.reduceLT, Nat.reduceEqDiff, Nat.reduceLeDiff, Int.reduceAdd, Int.reduceLT, Int.reduceLE, Nat.reduceMul, a0, a1, u8s_fold, length_u8s])
 try refine ⟨by (first|trivial|((repeat' apply And.intro) <;> first|trivial|assumption|omega|(simp only [maxLen]; omega)|(simp only [length_u8s, length_edsA, List.length_replicate, List.length_append, List.length_cons, List.length_nil, List.length_map, List.length_take, List.length_drop, List.length_set, List.length_reverse, maxLen] <;> omega))), ?_⟩
 simp [u8s]
theorem string79 (t : List UInt8) (B0 : Blk) (h0 : t ≠ []) (ht : t.length ≤ 100000000) : ACalls Tryz.prog G0 23 [.ptr 1 0 0 1] [B0, bldB (.ptr 1 0 0 1) t.length, .row 1 5 (u8s t)] (.str t) [B0, bldB (.ptr 1 0 0 1) t.length, deadRow 1 t.length] := fun S vals hok hG ha => by
 simp only [RelL] at ha
 obtain ⟨v, _, rfl, hv, rfl⟩ := ha
 obtain ⟨g, k, cs, rfl, hg, q2, q3, q4, q5, q6, q7⟩ := own_at hok (b := 1) (es := [[.ptr 1 0 0 1, .own 2 t.length t.length none]]) rfl hv
 obtain ⟨l1, l2⟩ := q7 0 _ rfl
 obtain ⟨u, hu, ho, hr⟩ := l2 1 _ rfl
 obtain ⟨s', hs', hn, hcase⟩ := rel_own hr (by simp [isLen, shOf, u8s])
 have hlen : t.length ≠ 0 := fun h => h0 (List.eq_nil_of_length_eq_zero h)
 rcases hcase with ⟨_, _, q, _⟩|⟨g2, k2, cap, hg2, rfl, hncap, hcapk, hcn, hcs⟩
 ·exact absurd q hlen
 ·have hb2 : ([B0, bldB (.ptr 1 0 0 1) t.length, .row 1 5 (u8s t)] : List Blk)[2]? = some (.row 1 5 (u8s t)) := rfl
  have hg2 : S.μ 2 = some (g2, k2) := hg2
  obtain ⟨g0, k0, cs2, r1, r2, r3, r4, r5, r6, r7⟩ := (hok.row 2 1 5 (u8s t) hb2).resolve_left (fun q => by rw [q.1] at hg2; cases hg2)
  rw [hg2] at r1; injection r1 with r1; injection r1 with e1 e3; subst e1; subst e3
  have hne : g ≠ g2 := fun e => by
   have := hok.inj 1 2 g (by simp [St.at, bldB, hg]) (by simp [St.at, hg2, e])
   cases this
  refine (builder_string g g2 cap cs2 t S.w h0 (by simpa [World.cell?, q3] using hu) r3 (by omega) (by omega) (by omega) fun j x hj => ?_).mono fun e w' ⟨he, hw⟩ => ?_
  ·obtain ⟨m1, m2⟩ := r7 j [.int .u8 x.toNat] (by simp [u8s, hj])
   obtain ⟨u2, hu2, _, hr2⟩ := m2 0 _ rfl
   obtain rfl : u2 = .int .u8 x.toNat := by simpa [Rel] using hr2
   simpa using hu2
  ·obtain ⟨d1, d2, d3, d4, d5⟩ := dead_all hb2 hok
   have hH : ([B0, bldB (.ptr 1 0 0 1) t.length, .row 1 5 (u8s t)] : List Blk).set 2 (deadRow 1 (u8s t).length) = [B0, bldB (.ptr 1 0 0 1) t.length, deadRow 1 t.length] := by simp [length_u8s]
   rw [hH] at d1 d2 d3 d4 d5
   have hheap : ∀ q, q ≠ g2 → w'.heap[q]? = S.w.heap[q]? := fun q hq => by
    rw [hw, World.freeze, if_neg hlen]
    simp only [Array.getElem?_modify, if_neg (Ne.symm hq)]
    rfl
   have hnot : ∀ x, (S.dead 2).at [B0, bldB (.ptr 1 0 0 1) t.length, deadRow 1 t.length] x ≠ some g2 := fun x hx => by
    obtain ⟨p1, p2⟩ := d3 x g2 hx
    exact p1 (hok.inj x 2 g2 p2 (by simp [St.at, hg2]))
   have hsize : w'.heap.size = S.w.heap.size := by
    rw [hw, World.freeze, if_neg hlen]
    exact Array.size_modify ..
   let S' : St := { S.dead 2 with w := w' }
   refine ⟨_, S', he, rfl, ⟨fun q o hq => ?_, fun x s1 t1 es1 hx => ?_, fun x o hx => ?_, d1.inj⟩, ⟨?_, ?_, ?_, Nat.le_of_eq hsize.symm, fun q hq hno => hheap q fun e => hno ⟨2, by simp [St.at, hg2, e]⟩, fun q o hq => hq, fun q hq => .inl hq, fun q hq => (d5 0).own q hq, fun x s1 cur hx hs => (d5 3).sh x s1 cur hx hs, fun x g' hx hs => (d5 3).ν x g' hx hs, fun _ => by simp⟩, by simp [Rel]⟩
   ·have hne2 : q ≠ g2 := fun e => by
     have hq : S.M q = some o := hq
     rw [e, r2] at hq; cases hq
    exact (hheap q hne2).trans (hok.imm q o hq)
   ·rcases d1.row x s1 t1 es1 hx with q|⟨g', k', cs', p1, p2, p3, p4, p5, p6, p7⟩
    ·exact .inl q
    ·have hgg : g' ≠ g2 := fun e => hnot x (by simp only [St.at, hx, p1]; rw [e]; rfl)
     exact .inr ⟨g', k', cs', p1, p2, (hheap g' hgg).trans p3, p4, p5, p6, p7⟩
   ·obtain ⟨g', ob1, p1, p2, p3, p4⟩ := d1.ob x o hx
    have hgg : g' ≠ g2 := fun e => hnot x (by simp only [St.at, hx, p1, e])
    exact ⟨g', ob1, p1, p2, (hheap g' hgg).trans p3, p4⟩
   ·show w'.os = S.w.os; rw [hw, World.freeze, if_neg hlen]; rfl
   ·show w'.tape = S.w.tape; rw [hw, World.freeze, if_neg hlen]; rfl
   ·show w'.output = S.w.output; rw [hw, World.freeze, if_neg hlen]; rfl
end Go.Proofs
