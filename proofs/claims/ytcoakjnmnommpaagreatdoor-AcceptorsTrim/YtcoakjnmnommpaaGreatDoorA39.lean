import Derived.Test.YtcoakjnmnommpaaGreatDoorAShelf
import Derived.Test.YtcoakjnmnommpaaGreatDoorA14
import Derived.Test.YtcoakjnmnommpaaGreatDoorAP2
import Derived.Test.YtcoakjnmnommpaaGreatDoorV34
import Derived.Test.YtcoakjnmnommpaaGreatDoorAQ1
import Derived.Lib.ItoaLen
namespace Go.Proofs
open Go Go.V Go.RowKit
set_option linter.unusedVariables false
set_option linter.unusedSimpArgs false
set_option maxHeartbeats 0
def byt (s : List UInt8) : List (List AV) := s.map fun b => [.int .u8 b.toNat]
theorem xH0 (s : List UInt8) : (byt s).length = s.length := by simp [byt]
theorem vaj9 (s t : List UInt8) : byt s ++ byt t = byt (s ++ t) := by simp [byt]
theorem vbN9 (s : List UInt8) : (s.map fun b => [AV.int .u8 b.toNat]) = byt s := rfl
theorem kbN9 {S : St} {H : List Blk} {b s o : Nat} {t : TypeId} {es : List (List AV)} {v : Value} (hok : S.Ok H) (hb : H[b]? = some (.row s t es)) (h : Rel (S.env H) (.ptr b 0 o es.length) v) : ∃ g k cs, v = .pointer (some ⟨g, o, none⟩) ∧ S.μ b = some (g, k) ∧ S.M g = none ∧ S.w.heap[g]? = some (.cells cs t (0, 0)) ∧ cs.size = k * s ∧ es.length ≤ k ∧ k ≤ maxLen ∧ RowIn (S.env H) s es cs := by
 obtain ⟨s', g, k, hs, hg, hv⟩ := kD0 h (by simp [kj0, kq0 hb])
 rw [kq0 hb] at hs; injection hs with hs; injection hs with e1 e2; subst e1
 obtain ⟨g0, k0, cs, q1, q2, q3, q4, q5, q6, q7⟩ := (hok.row b s t es hb).resolve_left (fun q => by rw [q.1] at hg; cases hg)
 rw [hg] at q1; injection q1 with q1; injection q1 with e1 e3; subst e1; subst e3
 exact ⟨g, k, cs, by simpa using hv, hg, q2, q3, q4, q5, q6, q7⟩
theorem kdA9 {H : List Blk} {b : Nat} {Y : AV} (hb : H[b]? = some (.row 2 95 [[.ptr b 0 0 1, Y]])) : qe0 Tryz.prog G0 73 [.ptr b 0 0 1] H (.tup []) H := fun S vals hok hG ha => by
 simp only [RelL] at ha
 obtain ⟨v, _, rfl, hv, rfl⟩ := ha
 obtain ⟨g, k, cs, rfl, hg, q2, q3, q4, q5, q6, q7⟩ := kbN9 hok hb hv
 obtain ⟨l1, l2⟩ := q7 0 _ rfl
 obtain ⟨u, hu, ho, hr⟩ := l2 0 _ rfl
 obtain ⟨g', k', cs', rfl, hg', _⟩ := kbN9 hok hb hr
 rw [hg] at hg'; injection hg' with hg'; injection hg' with e1 e2; subst e1; subst e2
 have hu : cs[0]? = some (.pointer (some ⟨g, 0, none⟩)) := by simpa using hu
 refine (vaH9 g S.w (by simp [World.cell?, q3, hu])).mono fun e w' ⟨he, hw⟩ => ?_
 subst hw
 exact ⟨_, S, he, rfl, hok, Ext.refl _ _ _, by simp [Rel, RelL]⟩
theorem wda9 {H : List Blk} {b : Nat} {Y : AV} (hb : H[b]? = some (.row 2 95 [[.lit (.pointer none), Y]])) : qe0 Tryz.prog G0 73 [.ptr b 0 0 1] H (.tup []) (H.set b (.row 2 95 [[.ptr b 0 0 1, Y]])) := fun S vals hok hG ha => by
 simp only [RelL] at ha
 obtain ⟨v, _, rfl, hv, rfl⟩ := ha
 have hvp := hv
 obtain ⟨g, k, cs, rfl, hg, q2, q3, q4, q5, q6, q7⟩ := kbN9 hok hb hv
 obtain ⟨l1, l2⟩ := q7 0 _ rfl
 obtain ⟨u, hu, ho, hr⟩ := l2 0 _ rfl
 obtain rfl : u = .pointer none := by simpa [Rel] using hr
 have hu : cs[0]? = some (.pointer none) := by simpa using hu
 obtain ⟨k, rfl⟩ : ∃ k', k = k' + 1 := ⟨k - 1, by have : 1 ≤ k := q5; omega⟩
 refine (kaz9 g k S.w (by simp [World.cell?, q3, hu]) (by simp [World.shape?, q3, q4]) (by simp [World.frozen?, q3])).mono fun e w' ⟨he, hw⟩ => ?_
 rw [setCell_eq_setRow S.w g 0 cs 95 (0, 0) _ q3] at hw
 have hext := xaT9 hok (cs.setIfInBounds 0 (.pointer (some ⟨g, 0, none⟩))) hb hg (es' := [[.ptr b 0 0 1, Y]]) (by simp) (cs := cs)
 have hrow : RowIn (S.env H) 2 [[.ptr b 0 0 1, Y]] (cs.setIfInBounds 0 (.pointer (some ⟨g, 0, none⟩))) := fun i e' hi => by
  cases i with
  | succ i => simp at hi
  | zero =>
   simp at hi; subst hi
   refine ⟨rfl, fun j a hj => ?_⟩
   cases j with
   | zero =>
    simp at hj; subst hj
    have hsz : 0 < cs.size := by rw [q4]; omega
    exact ⟨_, by simp [hsz], rfl, hvp⟩
   | succ j =>
    obtain ⟨u', hu', ho', hr'⟩ := l2 (j + 1) a (by simpa using hj)
    refine ⟨u', ?_, ho', hr'⟩
    rw [Array.getElem?_setIfInBounds_ne (by omega)]
    exact hu'
 refine ⟨_, S.put g (cs.setIfInBounds 0 (.pointer (some ⟨g, 0, none⟩))), he, hw.symm, zcg9 hok hb hg (by simp) (by simp) (by simpa using q4) hrow, hext, by simp [Rel, RelL]⟩
def bldB (A : AV) (n : Nat) : Blk := .row 2 95 [[A, .own 2 n n none]]
set_option maxRecDepth 100000 in
theorem vW0 (s : List UInt8) (B0 : Blk) (K : List Blk) (hs : s.length ≤ 1000000) : qe0 Tryz.prog G0 61 [.ptr 1 0 0 1, .str s] (B0 :: bldB (.lit (.pointer none)) 0 :: .row 1 5 [] :: K) (.tup [.int .i64 s.length, .lit .nilIface]) (B0 :: bldB (.ptr 1 0 0 1) s.length :: .row 1 5 (byt s) :: K) := by
 have hC := wda9 (H := B0 :: bldB (.lit (.pointer none)) 0 :: .row 1 5 [] :: K) (b := 1) rfl
 unfold bldB at *
 refine xI0 19 [.tmp 4, .tmp 5] Tryz.func61 rfl rfl rfl (by simp) ?_
 intro s ⟨a0, a1, hz⟩
 simp only [Nat.zero_add, Nat.reduceAdd] at a1
 clear hz
 repeat' (first|refine nav ?_|(refine g0_ ?_; refine goD ?_)|(with_reducible refine gG ?_ ?_)|((with_reducible refine And.intro (fun h => ?_) (fun h => ?_)) <;> try (exfalso; omega))|(with_reducible refine andG ?_)|(first|(refine ⟨_, _, hC, ?_⟩)|(refine ⟨_, hC, ?_⟩)|(refine ⟨_, fun _ => hC, ?_⟩))|simp (disch := (first|exact za0|fail)) only [push_cast, simprocAttr, a0, a1, vbN9, xH0])
 all_goals first|exact xb0|fail
set_option maxRecDepth 100000 in
theorem vJ0 (t s : List UInt8) (B0 : Blk) (K : List Blk) (hs : t.length + s.length ≤ 100000000) : qe0 Tryz.prog G0 61 [.ptr 1 0 0 1, .str s] (B0 :: bldB (.ptr 1 0 0 1) t.length :: .row 1 5 (byt t) :: K) (.tup [.int .i64 s.length, .lit .nilIface]) (B0 :: bldB (.ptr 1 0 0 1) (t ++ s).length :: .row 1 5 (byt (t ++ s)) :: K) := by
 have hC := kdA9 (H := B0 :: bldB (.ptr 1 0 0 1) t.length :: .row 1 5 (byt t) :: K) (b := 1) rfl
 unfold bldB at *
 have e1 : (byt t).take t.length = byt t := List.take_of_length_le (by rw [xH0]; omega)
 have e2 : (byt t).drop (t.length + s.length) = [] := List.drop_eq_nil_of_le (by rw [xH0]; omega)
 refine xI0 19 [.tmp 4, .tmp 5] Tryz.func61 rfl rfl rfl (by simp) ?_
 intro s ⟨a0, a1, hz⟩
 simp only [Nat.zero_add, Nat.reduceAdd] at a1
 clear hz
 repeat' (first|refine nav ?_|(refine g0_ ?_; refine goD ?_)|(with_reducible refine gG ?_ ?_)|((with_reducible refine And.intro (fun h => ?_) (fun h => ?_)) <;> try (exfalso; omega))|(with_reducible refine andG ?_)|(first|(refine ⟨_, _, hC, ?_⟩)|(refine ⟨_, hC, ?_⟩)|(refine ⟨_, fun _ => hC, ?_⟩))|simp (disch := (first|exact za0|fail)) only [push_cast, simprocAttr, a0, a1, vbN9, xH0, e1, e2, vaj9])
 try refine ⟨by first|exact xb0|fail, ?_⟩
 all_goals first|omega|(simp [vaj9, e1, e2]; done)|(simp [vaj9, e1, e2]; omega)
theorem vda9 (t : List UInt8) (B0 : Blk) (h0 : t ≠ []) (ht : t.length ≤ 100000000) : qe0 Tryz.prog G0 63 [.ptr 1 0 0 1] [B0, bldB (.ptr 1 0 0 1) t.length, .row 1 5 (byt t)] (.str t) [B0, bldB (.ptr 1 0 0 1) t.length, qf0 1 t.length] := fun S vals hok hG ha => by
 simp only [RelL] at ha
 obtain ⟨v, _, rfl, hv, rfl⟩ := ha
 obtain ⟨g, k, cs, rfl, hg, q2, q3, q4, q5, q6, q7⟩ := kbN9 hok (b := 1) (es := [[.ptr 1 0 0 1, .own 2 t.length t.length none]]) rfl hv
 obtain ⟨l1, l2⟩ := q7 0 _ rfl
 obtain ⟨u, hu, ho, hr⟩ := l2 1 _ rfl
 obtain ⟨s', hs', hn, hcase⟩ := vD0 hr (by simp [kj0, shOf, byt])
 have hlen : t.length ≠ 0 := fun h => h0 (List.eq_nil_of_length_eq_zero h)
 rcases hcase with ⟨_, _, q, _⟩|⟨g2, k2, cap, hg2, rfl, hncap, hcapk, hcn, hcs⟩
 ·exact absurd q hlen
 ·have hb2 : ([B0, bldB (.ptr 1 0 0 1) t.length, .row 1 5 (byt t)] : List Blk)[2]? = some (.row 1 5 (byt t)) := rfl
  have hg2 : S.μ 2 = some (g2, k2) := hg2
  obtain ⟨g0, k0, cs2, r1, r2, r3, r4, r5, r6, r7⟩ := (hok.row 2 1 5 (byt t) hb2).resolve_left (fun q => by rw [q.1] at hg2; cases hg2)
  rw [hg2] at r1; injection r1 with r1; injection r1 with e1 e3; subst e1; subst e3
  have hne : g ≠ g2 := fun e => by
   have := hok.inj 1 2 g (by simp [St.at, bldB, hg]) (by simp [St.at, hg2, e])
   cases this
  refine (kaH9 g g2 cap cs2 t S.w h0 (by simpa [World.cell?, q3] using hu) r3 (by omega) (by omega) (by omega) fun j x hj => ?_).mono fun e w' ⟨he, hw⟩ => ?_
  ·obtain ⟨m1, m2⟩ := r7 j [.int .u8 x.toNat] (by simp [byt, hj])
   obtain ⟨u2, hu2, _, hr2⟩ := m2 0 _ rfl
   obtain rfl : u2 = .int .u8 x.toNat := by simpa [Rel] using hr2
   simpa using hu2
  ·obtain ⟨d1, d2, d3, d4, d5⟩ := vbF9 hb2 hok
   have hH : ([B0, bldB (.ptr 1 0 0 1) t.length, .row 1 5 (byt t)] : List Blk).set 2 (qf0 1 (byt t).length) = [B0, bldB (.ptr 1 0 0 1) t.length, qf0 1 t.length] := by simp [xH0]
   rw [hH] at d1 d2 d3 d4 d5
   have hheap : ∀ q, q ≠ g2 → w'.heap[q]? = S.w.heap[q]? := fun q hq => by
    rw [hw, World.freeze, if_neg hlen]
    simp only [Array.getElem?_modify, if_neg (Ne.symm hq)]
    rfl
   have hnot : ∀ x, (S.dead 2).at [B0, bldB (.ptr 1 0 0 1) t.length, qf0 1 t.length] x ≠ some g2 := fun x hx => by
    obtain ⟨p1, p2⟩ := d3 x g2 hx
    exact p1 (hok.inj x 2 g2 p2 (by simp [St.at, hg2]))
   have hsize : w'.heap.size = S.w.heap.size := by
    rw [hw, World.freeze, if_neg hlen]
    exact Array.size_modify ..
   let S' : St := { S.dead 2 with w := w' }
   refine ⟨_, S', he, rfl, ⟨fun q o hq => ?_, fun x s1 t1 es1 hx => ?_, fun x o hx => ?_, d1.inj⟩, ⟨?_, ?_, ?_, Nat.le_of_eq hsize.symm, fun q hq hno => hheap q fun e => hno ⟨2, by simp [St.at, hg2, e]⟩, fun q o hq => hq, fun q hq => .inl hq, fun q hq => (d5 0).own q hq, fun x s1 cur hx hs => (d5 3).sh x s1 cur hx hs, fun x g' hx hs => (d5 3).ν x g' hx hs, fun _ => by simp⟩, by simp [Rel]⟩
   ·have hne2 : q ≠ g2 := fun e => by
     have hq : S.M q = some o := hq
     rw [e, r2] at hq; cases hq
    exact (hheap q hne2).trans (hok.imm q o hq)
   ·rcases d1.row x s1 t1 es1 hx with q|⟨g', k', cs', p1, p2, p3, p4, p5, p6, p7⟩
    ·exact .inl q
    ·have hgg : g' ≠ g2 := fun e => hnot x (by simp only [St.at, hx, p1]; rw [e]; rfl)
     exact .inr ⟨g', k', cs', p1, p2, (hheap g' hgg).trans p3, p4, p5, p6, p7⟩
   ·obtain ⟨g', ob1, p1, p2, p3, p4⟩ := d1.ob x o hx
    have hgg : g' ≠ g2 := fun e => hnot x (by simp only [St.at, hx, p1, e])
    exact ⟨g', ob1, p1, p2, (hheap g' hgg).trans p3, p4⟩
   ·show w'.os = S.w.os; rw [hw, World.freeze, if_neg hlen]; rfl
   ·show w'.tape = S.w.tape; rw [hw, World.freeze, if_neg hlen]; rfl
   ·show w'.output = S.w.output; rw [hw, World.freeze, if_neg hlen]; rfl
end Go.Proofs
namespace Go.Proofs
open Go Go.V Go.RowKit
set_option linter.unusedVariables false
set_option linter.unusedSimpArgs false
set_option maxHeartbeats 0
set_option maxRecDepth 100000
theorem xdj9 (H : List Blk) (n : Int) (h0 : -9223372036854775808 ≤ n) (h1 : n ≤ 9223372036854775807) : qe0 Tryz.prog G0 62 [.int .i64 n] H (.str (Lib.itoa n)) H :=
 vdt9 (g := 1) (by kernel_rfl) rfl (fun n h0 h1 w ht => Tryz.strconv_Itoa n h0 h1 w ht) n h0 h1
theorem xdS9 (H : List Blk) (s : List UInt8) (hl : s.length ≤ 281474976710656) : qe0 Tryz.prog G0 80 [.str s] H (.tup [.int .i64 (qZ0 s).1, errA (qZ0 s).2]) H :=
 kdt9 (gs := 3) (gr := 4) rfl rfl (fun s hm v h w => Tryz.strconv_Atoi_ok s hm v h w) (fun s hl h ev w h1 h2 => Tryz.strconv_Atoi_syntax s hl h ev w h1 h2) (fun s hl h ev w h1 h2 => Tryz.strconv_Atoi_range s hl h ev w h1 h2) s hl
theorem wbA9 (H : List Blk) (s sep : List UInt8) (hs : s.length < 4294967281) (h1 : 1 ≤ sep.length) : qe0 Tryz.prog G0 71 [.str s, .str sep] H (.sl 1 (strs (vv0 s sep)) (some (vv0 s sep).length)) H :=
 zcR9 (gm := 2) rfl (fun s sep m w hs hm h1 => Tryz.strings_Split s sep m w hs hm h1) s sep hs h1
theorem zaQ9 (s p : List UInt8) : p.isSuffixOf s = (decide (p.length ≤ s.length) && decide (s.drop (s.length - p.length) = p)) := by
 rw [Bool.eq_iff_iff, List.isSuffixOf_iff_suffix, Bool.and_eq_true, decide_eq_true_eq, decide_eq_true_eq]
 constructor
 ·rintro ⟨t, rfl⟩; simp
 ·rintro ⟨h1, h2⟩; exact ⟨s.take (s.length - p.length), by have := List.take_append_drop (s.length - p.length) s; rwa [h2] at this⟩
theorem vbA9 (s p : List UInt8) (hs : s.length ≤ 1000000) (hp : p.length ≤ 1000000) : PC Tryz.prog G0 83 [.str s, .str p] (.bool (p.isSuffixOf s)) := by
 rw [zaQ9]
 by_cases h : p.length ≤ s.length
 ·have e1 : ((s.length : Int) - p.length).toNat = s.length - p.length := by omega
  refine vd0 0 21 [.tmp 4] Tryz.func83 rfl rfl rfl (by simp) ?_
  intro s ⟨a0, a1, hz⟩
  simp only [Nat.zero_add, Nat.reduceAdd] at a1
  clear hz
  repeat' (first|refine nav ?_|(refine g0_ ?_; refine goD ?_)|(with_reducible refine gG ?_ ?_)|((with_reducible refine And.intro (fun h => ?_) (fun h => ?_)) <;> try (exfalso; omega))|(with_reducible refine andG ?_)|fail|simp (disch := (first|exact za0|fail)) only [push_cast, simprocAttr, a0, a1, h, e1])
 ·have e1 : ¬ (p.length : Int) ≤ s.length := by omega
  refine vd0 0 21 [.tmp 4] Tryz.func83 rfl rfl rfl (by simp) ?_
  intro s ⟨a0, a1, hz⟩
  simp only [Nat.zero_add, Nat.reduceAdd] at a1
  clear hz
  repeat' (first|refine nav ?_|(refine g0_ ?_; refine goD ?_)|(with_reducible refine gG ?_ ?_)|((with_reducible refine And.intro (fun h => ?_) (fun h => ?_)) <;> try (exfalso; omega))|(with_reducible refine andG ?_)|fail|simp (disch := (first|exact za0|fail)) only [push_cast, simprocAttr, a0, a1, h, e1])
def xD0 (s p : List UInt8) : List UInt8 × Bool := if p.isSuffixOf s = true then (s.take (s.length - p.length), true) else (s, false)
theorem kbA9 (s p : List UInt8) (hs : s.length ≤ 1000000) (hp : p.length ≤ 1000000) : PC Tryz.prog G0 78 [.str s, .str p] (.tup [.str (xD0 s p).1, .bool (xD0 s p).2]) := by
 have h1 := vbA9 s p hs hp
 unfold xD0
 cases h : p.isSuffixOf s with
 | true =>
  rw [h] at h1
  have hl : p.length ≤ s.length := by
   rw [zaQ9, Bool.and_eq_true] at h; simpa using h.1
  have e1 : ((s.length : Int) - p.length).toNat = s.length - p.length := by omega
  refine vd0 0 18 [.tmp 4, .tmp 5] Tryz.func78 rfl rfl rfl (by simp) ?_
  intro s ⟨a0, a1, hz⟩
  simp only [Nat.zero_add, Nat.reduceAdd] at a1
  clear hz
  repeat' (first|refine nav ?_|(refine g0_ ?_; refine goD ?_)|(with_reducible refine gG ?_ ?_)|((with_reducible refine And.intro (fun h => ?_) (fun h => ?_)) <;> try (exfalso; omega))|(with_reducible refine andG ?_)|(first|(refine ⟨_, _, qa0 (h1) (by (simp [idsL, idsE, AV.ids, Nat.add_zero])) _, ?_⟩)|(refine ⟨_, qa0 (h1) (by (simp [idsL, idsE, AV.ids, Nat.add_zero])) _, ?_⟩)|(refine ⟨_, fun _ => qa0 (h1) (by (simp [idsL, idsE, AV.ids, Nat.add_zero])) _, ?_⟩))|simp (disch := (first|exact za0|fail)) only [push_cast, simprocAttr, a0, a1, e1])
  all_goals omega
 | false =>
  rw [h] at h1
  refine vd0 0 18 [.tmp 4, .tmp 5] Tryz.func78 rfl rfl rfl (by simp) ?_
  intro s ⟨a0, a1, hz⟩
  simp only [Nat.zero_add, Nat.reduceAdd] at a1
  clear hz
  repeat' (first|refine nav ?_|(refine g0_ ?_; refine goD ?_)|(with_reducible refine gG ?_ ?_)|((with_reducible refine And.intro (fun h => ?_) (fun h => ?_)) <;> try (exfalso; omega))|(with_reducible refine andG ?_)|(first|(refine ⟨_, _, qa0 (h1) (by (simp [idsL, idsE, AV.ids, Nat.add_zero])) _, ?_⟩)|(refine ⟨_, qa0 (h1) (by (simp [idsL, idsE, AV.ids, Nat.add_zero])) _, ?_⟩)|(refine ⟨_, fun _ => qa0 (h1) (by (simp [idsL, idsE, AV.ids, Nat.add_zero])) _, ?_⟩))|simp (disch := (first|exact za0|fail)) only [push_cast, simprocAttr, a0, a1])
theorem qbB9 (s p : List UInt8) (hs : s.length ≤ 1000000) (hp : p.length ≤ 1000000) : PC Tryz.prog G0 70 [.str s, .str p] (.tup [.str (xD0 s p).1, .bool (xD0 s p).2]) := by
 have h1 := kbA9 s p hs hp
 generalize xD0 s p = c at *
 refine vd0 0 11 [.tmp 4, .tmp 5] Tryz.func70 rfl rfl rfl (by simp) ?_
 intro s ⟨a0, a1, hz⟩
 simp only [Nat.zero_add, Nat.reduceAdd] at a1
 clear hz
 repeat' (first|refine nav ?_|(refine g0_ ?_; refine goD ?_)|(with_reducible refine gG ?_ ?_)|((with_reducible refine And.intro (fun h => ?_) (fun h => ?_)) <;> try (exfalso; omega))|(with_reducible refine andG ?_)|(first|(refine ⟨_, _, qa0 (h1) (by (simp [idsL, idsE, AV.ids, Nat.add_zero])) _, ?_⟩)|(refine ⟨_, qa0 (h1) (by (simp [idsL, idsE, AV.ids, Nat.add_zero])) _, ?_⟩)|(refine ⟨_, fun _ => qa0 (h1) (by (simp [idsL, idsE, AV.ids, Nat.add_zero])) _, ?_⟩))|simp (disch := (first|exact za0|fail)) only [push_cast, simprocAttr, a0, a1])
end Go.Proofs
namespace Go.Proofs
open Go Go.V Go.RowKit
set_option linter.unusedVariables false
set_option linter.unusedSimpArgs false
set_option maxHeartbeats 0
def xaE9 (first : List UInt8) (l : List Int) (k : Nat) : List UInt8 := Lib.join (first :: (l.take k).map Lib.itoa) [32]
theorem xaQ9 (first : List UInt8) (l : List Int) : xaE9 first l 0 = first := by rw [xaE9, List.take_zero, List.map_nil, zq0]
theorem waQ9 (first : List UInt8) (l : List Int) (k : Nat) (h : k < l.length) : xaE9 first l (k + 1) = xaE9 first l k ++ ([32] ++ Lib.itoa (l.getD k 0)) := by
 rw [xaE9, zg0 l 0 k h, List.map_append, List.map_singleton, ← List.cons_append, vbj9 _ _ _ (by simp), xaE9]
theorem wbn9 (first : List UInt8) (l : List Int) : xaE9 first l l.length = xJ0 first l := by rw [xaE9, List.take_length, xJ0]
theorem waE9 (first : List UInt8) (l : List Int) (hi : ∀ x ∈ l, -9223372036854775808 ≤ x ∧ x ≤ 9223372036854775807) : ∀ k, k ≤ l.length → (xaE9 first l k).length ≤ first.length + 22 * k
 | 0, _ => by rw [xaQ9]; omega
 | k + 1, h => by
  have ih := waE9 first l hi k (by omega)
  have hx := hi (l.getD k 0) (by rw [List.getD_eq_getElem?_getD, List.getElem?_eq_getElem (by omega)]; exact List.getElem_mem _)
  have := Lib.itoa_length_le (l.getD k 0) hx.1 hx.2
  rw [waQ9 _ _ _ (by omega), List.length_append, List.length_append, List.length_singleton]
  omega
def lnT (t first : List UInt8) (l : List Int) (k : Nat) : List UInt8 := t ++ xaE9 first l k
def lnE (t first : List UInt8) (l : List Int) : List UInt8 := t ++ (xJ0 first l ++ [10])
theorem zcF9 (t first : List UInt8) (l : List Int) (k : Nat) : (lnT t first l k).length = t.length + (xaE9 first l k).length := by rw [lnT, List.length_append]
theorem xcF9 (t first : List UInt8) (l : List Int) (hi : ∀ x ∈ l, -9223372036854775808 ≤ x ∧ x ≤ 9223372036854775807) : (lnE t first l).length ≤ t.length + first.length + 22 * l.length + 1 := by
 have := waE9 first l hi l.length (Nat.le_refl _)
 rw [wbn9] at this
 rw [lnE, List.length_append, List.length_append, List.length_singleton]
 omega
set_option maxRecDepth 100000 in
theorem wdj9 (first t : List UInt8) (z : Nat) (l : List Int) (c : Option Nat) (B0 P0 : Blk) (K : List Blk) (hz : l = [] ∨ z = 1) (hi : ∀ x ∈ l, -9223372036854775808 ≤ x ∧ x ≤ 9223372036854775807) (hl : l.length ≤ 1000000) (ht : t.length + first.length ≤ 1000000)
  (hP : (P0 = bldB (.ptr 1 0 0 1) t.length) ∨ (P0 = bldB (.lit (.pointer none)) 0 ∧ t = [])) :
  qe0 Tryz.prog G0 60 [.str first, .sl z (ints l) c, .ptr 1 0 0 1] (B0 :: P0 :: .row 1 5 (byt t) :: K) (.tup []) (B0 :: bldB (.ptr 1 0 0 1) (lnE t first l).length :: .row 1 5 (byt (lnE t first l)) :: K) := by
 have hil := ka0 l
 have hlk := waE9 first l hi
 have hid : ∀ p, idsE p (ints l) = true := fun p => va0 _ _
 have hW1 : qe0 Tryz.prog G0 61 [.ptr 1 0 0 1, .str first] (B0 :: P0 :: .row 1 5 (byt t) :: K) (.tup [.int .i64 first.length, .lit .nilIface]) (B0 :: bldB (.ptr 1 0 0 1) (lnT t first l 0).length :: .row 1 5 (byt (lnT t first l 0)) :: K) := by
  rw [lnT, xaQ9]
  rcases hP with rfl|⟨rfl, rfl⟩
  ·exact vJ0 t first B0 K (by omega)
  ·exact vW0 first B0 K (by simp only [List.length_nil] at ht; omega)
 generalize hP0 : P0 = P0' at *
 unfold bldB at hW1 ⊢
 refine xI0 21 [] Tryz.func60 rfl rfl rfl (by simp) ?_
 intro s ⟨a0, a1, a2, hz⟩
 simp only [Nat.zero_add, Nat.reduceAdd] at a1 a2
 clear hz
 repeat' (first|refine nav ?_|(refine g0_ ?_; refine goD ?_)|(with_reducible refine gG ?_ ?_)|((with_reducible refine And.intro (fun h => ?_) (fun h => ?_)) <;> try (exfalso; omega))|(with_reducible refine andG ?_)|(first|(refine ⟨_, _, hW1, ?_⟩)|(refine ⟨_, hW1, ?_⟩)|(refine ⟨_, fun _ => hW1, ?_⟩))|simp (disch := (first|exact za0|fail)) only [push_cast, simprocAttr, a0, a1, a2, hil])
 refine go_loop rfl (fun mz s' H' => ∃ k : Nat, k ≤ l.length ∧ mz = l.length - k ∧ H' = (B0 :: .row 2 95 [[.ptr 1 0 0 1, .own 2 (lnT t first l k).length (lnT t first l k).length none]] :: .row 1 5 (byt (lnT t first l k)) :: K) ∧ s' 2 = .ptr 1 0 0 1 ∧ s' 9 = .sl z (ints l) c ∧ s' 10 = .int .i64 l.length ∧ s' 11 = .int .i64 k) (m := l.length) (by first|exact xb0|fail) (Weak.refl _ _) ⟨0, by omega, by omega, rfl, ?_⟩ ?_
 ·simp (disch := (first|exact za0|fail)) only [push_cast, simprocAttr, a0, a1, a2, hil]
 ·rintro mz s' H' ⟨k, hk, rfl, rfl, b2, b9, b10, b11⟩
  have hlk := hlk k hk
  rcases Nat.lt_or_ge k l.length with hlt|hge
  ·obtain rfl := hz.resolve_left (by intro h; rw [h] at hlt; simp at hlt)
   have e1 := kc0 l k hlt
   have hx := hi (l.getD k 0) (by rw [List.getD_eq_getElem?_getD, List.getElem?_eq_getElem hlt]; exact List.getElem_mem _)
   have hil2 := Lib.itoa_length_le (l.getD k 0) hx.1 hx.2
   have hI := fun H => xdj9 H (l.getD k 0) hx.1 hx.2
   have hW := vJ0 (lnT t first l k) ([32] ++ Lib.itoa (l.getD k 0)) B0 K (by rw [zcF9]; simp only [List.length_append, List.length_singleton]; omega)
   have hns : lnT t first l k ++ ([32] ++ Lib.itoa (l.getD k 0)) = lnT t first l (k + 1) := by rw [lnT, List.append_assoc, ← waQ9 _ _ _ hlt, lnT]
   rw [hns] at hW
   unfold bldB at hW
   generalize l.getD k 0 = n at *
   repeat' (first|refine nav ?_|(refine g0_ ?_; refine goD ?_)|(with_reducible refine gG ?_ ?_)|((with_reducible refine And.intro (fun h => ?_) (fun h => ?_)) <;> try (exfalso; omega))|(with_reducible refine andG ?_)|(first|(refine ⟨_, _, hI _, ?_⟩)|(refine ⟨_, hI _, ?_⟩)|(refine ⟨_, fun _ => hI _, ?_⟩)|(refine ⟨_, _, hW, ?_⟩)|(refine ⟨_, hW, ?_⟩)|(refine ⟨_, fun _ => hW, ?_⟩))|simp (disch := (first|exact za0|fail)) only [push_cast, simprocAttr, b2, b9, b10, b11, e1, hil])
   refine xa0 (l.length - (k + 1)) (by omega) (by first|exact xb0|fail) ⟨k + 1, by omega, rfl, rfl, ?_⟩
   simp (disch := (first|exact za0|fail)) only [push_cast, simprocAttr, b2, b9, b10, b11, e1, hil]
  ·obtain rfl : l.length = k := by omega
   have hW := vJ0 (lnT t first l l.length) [10] B0 K (by rw [zcF9]; simp only [List.length_append, List.length_singleton]; omega)
   have hns : lnT t first l l.length ++ [10] = lnE t first l := by rw [lnT, lnE, wbn9, List.append_assoc]
   rw [hns] at hW
   unfold bldB at hW
   repeat' (first|refine nav ?_|(refine g0_ ?_; refine goD ?_)|(with_reducible refine gG ?_ ?_)|((with_reducible refine And.intro (fun h => ?_) (fun h => ?_)) <;> try (exfalso; omega))|(with_reducible refine andG ?_)|(first|(refine ⟨_, _, hW, ?_⟩)|(refine ⟨_, hW, ?_⟩)|(refine ⟨_, fun _ => hW, ?_⟩))|simp (disch := (first|exact za0|fail)) only [push_cast, simprocAttr, b2, b9, b10, b11])
end Go.Proofs
