import Derived.Test.YtbgdagokjfmcbaaDoorD11
import Derived.Test.YtbgdagokjfmcbaaDoorD8
import Derived.Test.YtbgdagokjfmcbaaDoorD5
import Derived.Test.YtbgdagokjfmcbaaDoorV37
namespace Go.Proofs
open Go Go.V
set_option linter.unusedVariables false
set_option linter.unusedSimpArgs false
set_option maxHeartbeats 0
def wt0 (i o : Int) (l : List Row) (i' o' : Int) (r : List Row) : Int := if we0 i o l ≠ 0 then we0 i o l else if we0 i' o' r ≠ 0 then we0 i' o' r else if i ≠ i' then 5 else 0
set_option maxRecDepth 100000 in
theorem zaO9 (i o : Int) (l : List Row) (c : Option Nat) (i' o' : Int) (r : List Row) (d : Option Nat) (hl : l.length ≤ 1000000) (hr : r.length ≤ 1000000) (hl2 : ∀ j, j < l.length → (l.getD j ([], none)).1.length ≤ 1000000) (hr2 : ∀ j, j < r.length → (r.getD j ([], none)).1.length ≤ 1000000) : PC Tryd.prog G0 40 [mA i o l c, mA i' o' r d] (.int .i64 (wt0 i o l i' o' r)) := by
 have h1 := qbo9 i o l 1 c (.inr rfl) hl hl2;have h2 := qbo9 i' o' r 1 d (.inr rfl) hr hr2;unfold mA wt0;generalize we0 i o l = e1 at *;generalize we0 i' o' r = e2 at *;refine wf0 1 22 [.tmp 4] Tryd.func40 rfl rfl rfl (by simp) ?_;intro s ⟨a0, a1, hz⟩;simp only [Nat.zero_add, Nat.reduceAdd] at a1;clear hz;repeat' (first|refine nv ?_|(with_reducible first|refine gG ?_ ?_|refine ⟨fun h => ?_, fun h => ?_⟩ <;> try omega|refine andG ?_)|refine cp_ h1 ?_|refine cp_ h2 ?_|simp (disch := try exact qa0) only [push_cast, simprocAttr, a0, a1])
 ·rw [if_pos h]
 ·rename_i h0;rw [if_neg (by omega), if_pos h]
 ·rename_i h0 h1;rw [if_neg (by omega), if_neg (by omega), if_pos h]
 ·rename_i h0 h1;rw [if_neg (by omega), if_neg (by omega), if_neg (by omega)]
set_option maxRecDepth 100000 in
theorem kag9 (b n h : Nat) (t : TypeId) (es : List (List AV)) (c : Option Nat) (H : List Blk) (hb : H[b]? = some (.row 6 t es)) (hh : h = es.length) : qg0 Tryd.prog G0 42 [.own b n h c] H (.own b n h (some n)) H := by
 subst hh;refine vQ0 9 [.tmp 2] Tryd.func42 rfl rfl rfl (by simp) ?_;intro s ⟨a0, hz⟩;clear hz;repeat' (first|refine nv ?_|(with_reducible first|refine gG ?_ ?_|refine ⟨fun h => ?_, fun h => ?_⟩ <;> try omega|refine andG ?_)|simp (disch := try exact qa0) only [push_cast, simprocAttr, a0, hb])
theorem xe0 {i o : Int} {l : List Row} (h : we0 i o l = 0) : (1 ≤ i ∧ i ≤ 16) ∧ (1 ≤ o ∧ o ≤ 16) ∧ (1 ≤ l.length ∧ l.length ≤ 64) ∧ Wide i l ∧ ∀ j, j < l.length → (l.getD j ([], none)).1.all (fitE o l.length) = true := by
 rw [we0] at h;by_cases h1 : 16 < i ∨ 16 < o ∨ 64 < l.length
 ·rw [if_pos h1] at h; omega
 ·by_cases h2 : i < 1 ∨ o < 1 ∨ l.length < 1
  ·rw [if_neg h1, if_pos h2] at h; omega
  ·rw [if_neg h1, if_neg h2] at h;split at h
   ·rename_i hh;refine ⟨by omega, by omega, by omega, fun j hj => ?_, fun j hj => ?_⟩
    ·have := hh j hj; rw [kba9, Bool.and_eq_true, decide_eq_true_eq] at this; exact this.1
    ·have := hh j hj; rw [kba9, Bool.and_eq_true] at this; exact this.2
   ·omega
theorem wcc9 {i o : Int} {l : List Row} (h1 : 1 ≤ i ∧ i ≤ 16) (h2 : 1 ≤ o ∧ o ≤ 16) (h3 : 1 ≤ l.length ∧ l.length ≤ 64) (h4 : Wide i l) (h5 : ∀ j, j < l.length → (l.getD j ([], none)).1.all (fitE o l.length) = true) : we0 i o l = 0 := by
 rw [we0, if_neg (by omega), if_neg (by omega), if_pos];intro j hj;rw [kba9, h5 j hj, decide_eq_true (h4 j hj)]; rfl
def seqE (l r : List Row) (I q : Nat) : List Ed := ((List.range q).map (waA9 l r I)).filter qv0
theorem wbb9 (l r : List Row) (I q : Nat) : seqE l r I (q + 1) = seqE l r I q ++ bif qv0 (waA9 l r I q) then [waA9 l r I q] else [] := by
 rw [seqE, List.range_succ, List.map_append, List.filter_append];simp only [List.map_cons, List.map_nil, List.filter_cons, List.filter_nil];cases qv0 (waA9 l r I q) <;> rfl
theorem zbo9 (l r : List Row) (I q : Nat) : (seqE l r I q).length ≤ q := by
 have := List.length_filter_le qv0 ((List.range q).map (waA9 l r I));simpa [seqE] using this
theorem kbw9 (l r : List Row) (I S : Nat) : ∀ j, j ≤ I → seqE l r I (S * I + j) = seqE l r I (S * I) ++ zK0 l r j S
 | 0, _ => by simp [zK0]
 | j + 1, h => by
  rw [← Nat.add_assoc, wbb9, qaO9 l r I S j (by omega), kbw9 l r I S j (by omega), zbb9, List.append_assoc]
theorem qbx9 (l r : List Row) (I : Nat) : ∀ S, seqE l r I (S * I) = kC0 l r S I
 | 0 => by rw [Nat.zero_mul]; simp [seqE, kC0]
 | S + 1 => by rw [Nat.succ_mul, kbw9 l r I S I (Nat.le_refl _), qbx9 l r I S, xbb9]
def pZ : Pt := ⟨0, 0, 0, 0, 0, []⟩
def vcc9 (i o : Int) (l : List Row) (c : Option Nat) (i' o' : Int) (r : List Row) (d : Option Nat) (q : Nat) : List Blk := [.row 3 30 [[.int .i64 i, .int .i64 o, .sl 1 (xb0 l) c]], .row 3 30 [[.int .i64 i', .int .i64 o', .sl 1 (xb0 r) d]], .row 6 36 [[.int .i64 0, .int .i64 0, .int .i64 0, .int .i64 0, .int .i64 0, .sl 0 [] (some 0)]], .row 6 36 [[.int .i64 i, .int .i64 o, .int .i64 o', .int .i64 l.length, .int .i64 r.length, .own 4 (seqE l r i.toNat q).length (seqE l r i.toNat q).length none]], .row 6 93 (edsA (seqE l r i.toNat q))]
set_option maxRecDepth 100000 in
theorem vdq9 (i o : Int) (l : List Row) (c : Option Nat) (i' o' : Int) (r : List Row) (d : Option Nat) (hl : l.length ≤ 1000000) (hr : r.length ≤ 1000000) (hl2 : ∀ j, j < l.length → (l.getD j ([], none)).1.length ≤ 1000000) (hr2 : ∀ j, j < r.length → (r.getD j ([], none)).1.length ≤ 1000000) : PC Tryd.prog G0 11 [mA i o l c, mA i' o' r d] (if wt0 i o l i' o' r = 0 then .tup [pA (vda9 i o l o' r) 6 (some (vda9 i o l o' r).ed.length), .int .i64 0] else .tup [pA pZ 0 (some 0), .int .i64 (wt0 i o l i' o' r)]) := by
 have hC := zaO9 i o l c i' o' r d hl hr hl2 hr2;have hB := xdq9 i o l c i' o' r d;unfold mA at hC hB ⊢;by_cases hp : wt0 i o l i' o' r = 0
 ·rw [if_pos hp];rw [hp] at hC;have hm : we0 i o l = 0 := by
   unfold wt0 at hp; split at hp <;> omega
  have hm' : we0 i' o' r = 0 := by
   unfold wt0 at hp; split at hp <;> (try split at hp) <;> omega
  have hii : i = i' := by
   unfold wt0 at hp; split at hp <;> (try split at hp) <;> (try split at hp) <;> omega
  subst hii;obtain ⟨q1, q2, q3, q4, q5⟩ := xe0 hm;obtain ⟨_, q2', q3', q4', q5'⟩ := xe0 hm';unfold pA;refine wf0 1 51 [.cell 4 36, .tmp 5] Tryd.func11 rfl rfl rfl (by simp) ?_;intro s ⟨a0, a1, hz⟩;simp only [Nat.zero_add, Nat.reduceAdd] at a1;clear hz;repeat' (first|refine nv ?_|(with_reducible first|refine gG ?_ ?_|refine ⟨fun h => ?_, fun h => ?_⟩ <;> try omega|refine andG ?_)|refine cp_ hC ?_|refine cp_ hB ?_|simp (disch := try exact qa0) only [push_cast, simprocAttr, a0, a1])
  have hit := wdq9 i o l c i o' r d (by omega) (by omega) (by omega) q4 q4';have hbel : ∀ q : Nat, (vcc9 i o l c i o' r d q).all (Blk.below 5) = true := fun q => by simp [vcc9, Blk.below, idsE, idsL, AV.ids]
  refine zo0 (by first|exact wb0|fail) (vi0 (b := 3) (i := 0) (j := 5) (sz := 6) (ty := 93) rfl rfl rfl) ?_;have hbig : max l.length r.length * i.toNat ≤ 64 * 16 := Nat.mul_le_mul (by omega) (by omega);refine zaX9 (m := max l.length r.length * i.toNat) (k := 5) .normal (vcc9 i o l c i o' r d) rfl (by first|exact wb0|fail) ?_ ?_ (by kernel_rfl) hit rfl rfl (fun i => rfl) hbel (fun i => ⟨by simp [idsL, AV.ids, xA], rfl⟩) (fun h => by cases h) (fun _ => rfl) rfl (fun q hq s1 hs1 => ?_) (fun h => by cases h) ?_
  ·simp (disch := try exact qa0) only [push_cast, simprocAttr, a0, a1]
  ·simp (disch := try exact qa0) only [push_cast, simprocAttr, a0, a1]
  ·have r7 := (wbG9 hs1 7 rfl).trans (show _ = AV.ptr 3 0 0 1 from rfl);have r34 : s1 34 = .agg (xA (waA9 l r i.toNat q)) := (hs1 34).trans rfl;have hds := wbb9 l r i.toNat q;have hcnt := zbo9 l r i.toNat q;unfold vcc9;dsimp only [qv0] at hds;generalize seqE l r i.toNat q = es at *;generalize waA9 l r i.toNat q = x at *;obtain ⟨xs, xi, ⟨x1, x2⟩, w1, w2⟩ := x;simp only [xA] at r34;repeat' (first|refine nv ?_|(with_reducible first|refine gG ?_ ?_|refine ⟨fun h => ?_, fun h => ?_⟩ <;> try omega|refine andG ?_)|refine cp_ hC ?_|refine cp_ hB ?_|simp (disch := try exact qa0) only [push_cast, simprocAttr, r7, r34, qe0, AV.ids, idsL])
   refine qZ0 ⟨by first|exact wb0|fail, at_go ?_⟩;repeat' (first|refine nv ?_|(with_reducible first|refine gG ?_ ?_|refine ⟨fun h => ?_, fun h => ?_⟩ <;> try omega|refine andG ?_)|refine cp_ hC ?_|refine cp_ hB ?_|simp (disch := try exact qa0) only [push_cast, simprocAttr, r7, r34, qe0, AV.ids, idsL])
   ·have hq2 : q < 1024 := Nat.lt_of_lt_of_le hq hbig;try refine ⟨by first|exact wb0|fail, ?_⟩
    rw [hds];rcases h with h|h <;> simp [h, edsA, xA]
   ·rw [hds];simp [h.1, h.2]
  ·have hj : (if (xh0 Exit.normal).isSome = true then max l.length r.length * i.toNat + 1 else max l.length r.length * i.toNat) = max l.length r.length * i.toNat := rfl;rw [hj];unfold vcc9;rw [qbx9];repeat' (first|refine nv ?_|(with_reducible first|refine gG ?_ ?_|refine ⟨fun h => ?_, fun h => ?_⟩ <;> try omega|refine andG ?_)|refine cl_ (kag9 4 (kC0 l r (max l.length r.length) i.toNat).length _ 93 (edsA (kC0 l r (max l.length r.length) i.toNat)) _ _ rfl (xa0 _).symm) ?_|simp (disch := try exact qa0) only [push_cast, simprocAttr, a0, a1, wh0])
   simp [vda9]
 ·rw [if_neg hp];generalize wt0 i o l i' o' r = e at *;unfold pA pZ;refine wf0 1 51 [.cell 4 36, .tmp 5] Tryd.func11 rfl rfl rfl (by simp) ?_;intro s ⟨a0, a1, hz⟩;simp only [Nat.zero_add, Nat.reduceAdd] at a1;clear hz;repeat' (first|refine nv ?_|(with_reducible first|refine gG ?_ ?_|refine ⟨fun h => ?_, fun h => ?_⟩ <;> try omega|refine andG ?_)|refine cp_ hC ?_|refine cp_ hB ?_|simp (disch := try exact qa0) only [push_cast, simprocAttr, a0, a1])
  rfl
theorem qj0 (x : Ed) (xs : List Ed) : edsA (x :: xs) = [.int .i64 x.s, .int .i64 x.i, .int .i64 x.old.1, .int .i64 x.old.2, .int .i64 x.new.1, .int .i64 x.new.2] :: edsA xs := rfl
set_option maxRecDepth 100000 in
theorem xbo9 (k : Nat) (c : Option Nat) : PC Tryd.prog G0 71 [.sl k [] c] (.sl 0 [] (some 0)) := by
 refine wf0 1 8 [.tmp 2] Tryd.func71 rfl rfl rfl (by simp) ?_;intro s ⟨a0, hz⟩;clear hz;repeat' (first|refine nv ?_|(with_reducible first|refine gG ?_ ?_|refine ⟨fun h => ?_, fun h => ?_⟩ <;> try omega|refine andG ?_)|simp (disch := try exact qa0) only [push_cast, simprocAttr, a0])
set_option maxRecDepth 100000 in
theorem kda9 (xs : List Ed) (k : Nat) (c : Option Nat) (H : List Blk) (hk : xs = [] ∨ k = 6) (hx : xs.length ≤ 1000000) : qg0 Tryd.prog G0 71 [.sl k (edsA xs) c] H (.own H.length xs.length xs.length none) (H ++ [.row 6 93 (edsA xs)]) := by
 cases xs with
 | nil => exact zS0 (kf0 (xbo9 k c) (by simp [idsL, idsE, AV.ids]) H) 6 93
 | cons x xs =>
  obtain rfl := hk.resolve_left (by simp);simp only [List.length_cons] at hx;refine vQ0 8 [.tmp 2] Tryd.func71 rfl rfl rfl (by simp) ?_;intro s ⟨a0, hz⟩;clear hz;repeat' (first|refine nv ?_|(with_reducible first|refine gG ?_ ?_|refine ⟨fun h => ?_, fun h => ?_⟩ <;> try omega|refine andG ?_)|simp (disch := try exact qa0) only [push_cast, simprocAttr, a0, qj0, xa0])
  first|exact wb0|fail
def midE (l : List Ed) (k : Nat) : List Ed := (l.take k).map invE ++ l.drop k
theorem kcc9 (l : List Ed) : midE l 0 = l := by simp [midE]
theorem kcA9 (l : List Ed) : midE l l.length = l.map invE := by simp [midE]
theorem xV0 (l : List Ed) (k : Nat) : (midE l k).length = l.length := by simp [midE]; omega
theorem qcB9 (l : List Ed) (k : Nat) (h : k < l.length) : (midE l k).getD k eD = l.getD k eD := by
 rw [midE, List.getD_eq_getElem?_getD, List.getElem?_append_right (by simp; omega)];simp [Nat.min_eq_left (Nat.le_of_lt h), h]
theorem zcB9 (l : List Ed) (k : Nat) (h : k < l.length) : (midE l k).set k (invE (l.getD k eD)) = midE l (k + 1) := by
 have hn : ((l.take k).map invE).length = k := by simp; omega
 rw [midE, List.set_append_right _ _ (by omega), hn, Nat.sub_self, midE, wn0 invE l eD k h, List.append_assoc];congr 1
 rw [List.drop_eq_getElem_cons h, List.set_cons_zero];simp [h]
theorem xcB9 (l : List Ed) (k : Nat) (x : Ed) : (edsA l).set k [.int .i64 x.s, .int .i64 x.i, .int .i64 x.old.1, .int .i64 x.old.2, .int .i64 x.new.1, .int .i64 x.new.2] = edsA (l.set k x) := by rw [edsA, edsA, List.map_set]; rfl
set_option maxRecDepth 100000 in
theorem qcd9 (p : Pt) (z : Nat) (c : Option Nat) (hz : p.ed = [] ∨ z = 6) (hl : p.ed.length ≤ 1000000) : PC Tryd.prog G0 33 [pA p z c] (if xj0 p = 0 then .tup [pA (invM p) 6 (some p.ed.length), .int .i64 0] else .tup [pA pZ 0 (some 0), .int .i64 (xj0 p)]) := by
 have hC := vag9 p z c hz hl;unfold pA at hC ⊢;by_cases h0 : xj0 p = 0
 ·rw [if_pos h0];rw [h0] at hC;have hK := kda9 p.ed z c [.row 6 36 [[.int .i64 p.inp, .int .i64 p.o1, .int .i64 p.o0, .int .i64 p.s1, .int .i64 p.s0, .sl z (edsA p.ed) c]], .row 6 36 [[.int .i64 0, .int .i64 0, .int .i64 0, .int .i64 0, .int .i64 0, .sl 0 [] (some 0)]]] hz hl;have hK2 := kag9 2 p.ed.length p.ed.length 93 (edsA p.ed) none [.row 6 36 [[.int .i64 p.inp, .int .i64 p.o1, .int .i64 p.o0, .int .i64 p.s1, .int .i64 p.s0, .sl z (edsA p.ed) c]], .row 6 36 [[.int .i64 0, .int .i64 0, .int .i64 0, .int .i64 0, .int .i64 0, .sl 0 [] (some 0)]], .row 6 93 (edsA p.ed)] rfl (xa0 _).symm;refine wf0 1 62 [.cell 2 36, .tmp 3] Tryd.func33 rfl rfl rfl (by simp) ?_;intro s ⟨a0, hz⟩;clear hz;repeat' (first|(first|refine nav ?_|(refine g0_ ?_; first|refine dN (p := [1, 0, 0, 1, 1, 0, 0, 1, 0, 1, 1, 1, 1, 1]) [(49, 1), (50, 49), (54, 6), (55, 54)] [(57, some 57)] [] ?_|refine goD ?_))|(with_reducible first|refine gG ?_ ?_|refine ⟨fun h => ?_, fun h => ?_⟩ <;> try omega|refine andG ?_)|refine cp_ hC ?_|refine cl_ hK ?_|refine cl_ hK2 ?_|simp (disch := try exact qa0) only [push_cast, simprocAttr, a0])
  refine go_loop rfl (fun mz s' H' => ∃ k : Nat, k ≤ p.ed.length ∧ mz = p.ed.length - k ∧ H' = [.row 6 36 [[.int .i64 p.inp, .int .i64 p.o1, .int .i64 p.o0, .int .i64 p.s1, .int .i64 p.s0, .own 2 p.ed.length p.ed.length (some p.ed.length)]], .row 6 36 [[.int .i64 0, .int .i64 0, .int .i64 0, .int .i64 0, .int .i64 0, .sl 0 [] (some 0)]], .row 6 93 (edsA (midE p.ed k))] ∧ s' 1 = .ptr 0 0 0 1 ∧ s' 2 = .ptr 1 0 0 1 ∧ s' 39 = .own 2 p.ed.length p.ed.length (some p.ed.length) ∧ s' 40 = .int .i64 p.ed.length ∧ s' 41 = .int .i64 k) (m := p.ed.length) (by first|exact wb0|fail) (Weak.refl _ _) ⟨0, by omega, by omega, (by first|rfl|simp [kcc9]), ?_⟩ ?_
  ·simp (disch := try exact qa0) only [push_cast, simprocAttr, a0]
  ·rintro mz s' H' ⟨k, hk, rfl, rfl, b1, b2, b39, b40, b41⟩;have e0 : (edsA (midE p.ed k)).length = p.ed.length := by rw [xa0, xV0]
   rcases Nat.lt_or_ge k p.ed.length with hlt|hge
   ·have e1 := qK0 (midE p.ed k) k (by rw [xV0]; exact hlt);have e2 := zcB9 p.ed k hlt
    change _ = xA ((midE p.ed k).getD k eD) at e1
    rw [qcB9 _ _ hlt] at e1;have e3 := xcB9 (midE p.ed k) k;generalize p.ed.getD k eD = x at *;simp only [xA] at e1;have e4 := fun v => vaN9 (edsA (midE p.ed k)) k v [] (by omega);have e5 : (edsA (midE p.ed k)).set k [.int .i64 x.s, .int .i64 x.i, .int .i64 x.new.1, .int .i64 x.new.2, .int .i64 x.old.1, .int .i64 x.old.2] = edsA (midE p.ed (k + 1)) := by rw [← e2, ← e3 (invE x)]; rfl
    have e6 : (edsA (midE p.ed (k + 1))).length = p.ed.length := by rw [xa0, xV0]
    repeat' (first|(first|refine nav ?_|(refine g0_ ?_; first|refine dN (p := [1, 0, 0, 1, 1, 0, 0, 1, 0, 1, 1, 1, 1, 1]) [(49, 1), (50, 49), (54, 6), (55, 54)] [(57, some 57)] [] ?_|refine goD ?_))|(with_reducible first|refine gG ?_ ?_|refine ⟨fun h => ?_, fun h => ?_⟩ <;> try omega|refine andG ?_)|refine cp_ hC ?_|refine cl_ hK ?_|refine cl_ hK2 ?_|simp (disch := try exact qa0) only [push_cast, simprocAttr, b1, b2, b39, b40, b41, e0, e1, e4, e5, e6, List.set_set, List.length_set])
    refine va0 (p.ed.length - (k + 1)) 3 (by omega) (by first|exact wb0|fail) (by omega) (by simp) (by simp [Blk.below, idsE, idsL, AV.ids]) ⟨k + 1, by omega, rfl, rfl, ?_⟩;simp (disch := try exact qa0) only [push_cast, simprocAttr, b1, b2, b39, b40, b41, qe0, AV.ids, idsL]
   ·obtain rfl : k = p.ed.length := by omega
    repeat' (first|(first|refine nav ?_|(refine g0_ ?_; first|refine dN (p := [1, 0, 0, 1, 1, 0, 0, 1, 0, 1, 1, 1, 1, 1]) [(49, 1), (50, 49), (54, 6), (55, 54)] [(57, some 57)] [] ?_|refine goD ?_))|(with_reducible first|refine gG ?_ ?_|refine ⟨fun h => ?_, fun h => ?_⟩ <;> try omega|refine andG ?_)|refine cp_ hC ?_|refine cl_ hK ?_|refine cl_ hK2 ?_|simp (disch := try exact qa0) only [push_cast, simprocAttr, b1, b2, b39, b40, b41, e0])
    simp [invM, kcA9]
 ·rw [if_neg h0];generalize xj0 p = e at *;refine wf0 1 62 [.cell 2 36, .tmp 3] Tryd.func33 rfl rfl rfl (by simp) ?_;intro s ⟨a0, hz⟩;clear hz;repeat' (first|(first|refine nav ?_|(refine g0_ ?_; first|refine dN (p := [1, 0, 0, 1, 1, 0, 0, 1, 0, 1, 1, 1, 1, 1]) [(49, 1), (50, 49), (54, 6), (55, 54)] [(57, some 57)] [] ?_|refine goD ?_))|(with_reducible first|refine gG ?_ ?_|refine ⟨fun h => ?_, fun h => ?_⟩ <;> try omega|refine andG ?_)|refine cp_ hC ?_|simp (disch := try exact qa0) only [push_cast, simprocAttr, a0])
  simp [pZ, edsA]
set_option maxRecDepth 100000 in
theorem wdD9 (i o : Int) (l : List Row) (y : Nat) (c : Option Nat) (p : Pt) (z : Nat) (d : Option Nat) (hy : l = [] ∨ y = 1) (hll : l.length ≤ 1000000) (hr : ∀ j, j < l.length → (l.getD j ([], none)).1.length ≤ 1000000) (hz : p.ed = [] ∨ z = 6) (hl : p.ed.length ≤ 1000000) : PC Tryd.prog G0 58 [.agg [.int .i64 i, .int .i64 o, .sl y (xb0 l) c], pA p z d] (.int .i64 (if we0 i o l ≠ 0 then we0 i o l else if xj0 p ≠ 0 then xj0 p else wcZ9 i o l.length p)) := by
 have h1 := qbo9 i o l y c hy hll hr;have h2 := vag9 p z d hz hl;unfold pA wcZ9 at *;generalize we0 i o l = e1 at *;generalize xj0 p = e2 at *;refine wf0 1 37 [.tmp 4] Tryd.func58 rfl rfl rfl (by simp) ?_;intro s ⟨a0, a1, hz⟩;simp only [Nat.zero_add, Nat.reduceAdd] at a1;clear hz;repeat' (first|refine nv ?_|(with_reducible first|refine gG ?_ ?_|refine ⟨fun h => ?_, fun h => ?_⟩ <;> try omega|refine andG ?_)|refine cp_ h1 ?_|refine cp_ h2 ?_|simp (disch := try exact qa0) only [push_cast, simprocAttr, a0, a1])
 all_goals (congr 1; (repeat' split) <;> omega)
end Go.Proofs
