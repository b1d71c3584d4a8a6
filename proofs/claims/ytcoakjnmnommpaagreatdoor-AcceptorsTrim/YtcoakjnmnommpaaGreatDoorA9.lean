import Derived.Test.YtcoakjnmnommpaaGreatDoorA7
import Derived.Test.YtcoakjnmnommpaaGreatDoorA2
namespace Go.Proofs
open Go Go.V
set_option linter.unusedVariables false
set_option linter.unusedSimpArgs false
set_option maxHeartbeats 0
def wlP (p : Nat → Bool) (i : Nat) : List Nat := (ws0 (wP p i)).map fun b => 64 * i + b
def elP (p : Nat → Bool) (k : Nat) : List Nat := (List.range k).flatMap (wlP p)
theorem kby9 (p : Nat → Bool) : elP p 4 = elemsP p := (wbl9 p).symm
theorem kaY9 (p : Nat → Bool) (k : Nat) : elP p (k + 1) = elP p k ++ wlP p k := by rw [elP, List.range_succ, List.flatMap_append]; simp [elP]
theorem qbz9 (p : Nat → Bool) (k : Nat) : (wlP p k).length = (ws0 (wP p k)).length := by simp [wlP]
theorem wdx9 (p : Nat → Bool) (k : Nat) (h : k ≤ 4) : ∃ t, elemsP p = elP p k ++ t := by
 have : ∀ d, ∃ t, elP p (k + d) = elP p k ++ t := by
  intro d
  induction d with
  | zero => exact ⟨[], by simp⟩
  | succ d ih =>
   obtain ⟨t, ht⟩ := ih
   exact ⟨t ++ wlP p (k + d), by rw [← Nat.add_assoc, kaY9, ht, List.append_assoc]⟩
 obtain ⟨t, ht⟩ := this (4 - k)
 rw [show k + (4 - k) = 4 by omega, kby9] at ht
 exact ⟨t, ht⟩
theorem vdN9 {p : Nat → Bool} {k j b : Nat} {r : List Nat} (hk : k < 4) (h : (ws0 (wP p k)).drop j = b :: r) : (elemsP p).getD ((elP p k).length + j) 0 = 64 * k + b ∧ (elP p k).length + j < (elemsP p).length := by
 obtain ⟨t, ht⟩ := wdx9 p (k + 1) (by omega)
 rw [kaY9] at ht
 have hj : j < (ws0 (wP p k)).length := by
  rcases Nat.lt_or_ge j (ws0 (wP p k)).length with q|q
  ·exact q
  ·rw [List.drop_eq_nil_of_le q] at h; cases h
 have hb : (ws0 (wP p k))[j] = b := by
  have := List.drop_eq_getElem_cons hj
  rw [h] at this
  exact (List.cons.inj this).1.symm
 rw [ht]
 constructor
 ·rw [List.append_assoc, List.getD_eq_getElem?_getD, List.getElem?_append_right (by omega), Nat.add_sub_cancel_left, List.getElem?_append_left (by rw [qbz9]; exact hj), wlP, List.getElem?_map, List.getElem?_eq_getElem hj, hb]
  rfl
 ·simp only [List.length_append, qbz9]; omega
def elX (p : Nat → Bool) (q : Nat) : List AV := [.int .i64 ((elemsP p).getD q 0 : Nat)]
theorem kdN9 (w : Nat) (h : w < 2 ^ 64) : w &&& (w - 1) < 2 ^ 64 := Nat.and_lt_two_pow _ (by omega)
set_option maxRecDepth 100000 in
theorem qdO9 (p : Nat → Bool) : PC Tryz.prog G0 38 [.agg (setL p)] (.fn 65 [.iptr (setL p) 0]) := by
 unfold setL
 refine vd0 3 4 [.tmp 2] Tryz.func38 rfl rfl rfl (by simp) ?_
 intro s ⟨a0, hz⟩
 clear hz
 repeat' (first|refine nav ?_|(refine g0_ ?_; refine goD ?_)|(with_reducible refine gG ?_ ?_)|((with_reducible refine And.intro (fun h => ?_) (fun h => ?_)) <;> try (exfalso; omega))|(with_reducible refine andG ?_)|fail|simp (disch := (first|exact za0|fail)) only [push_cast, simprocAttr, a0])
set_option maxRecDepth 100000 in
theorem zdO9 (p : Nat → Bool) : Iter Tryz.prog G0 65 [.iptr (setL p) 0] (elX p) (elemsP p).length := by
 intro K b q stop hs1 hs2 hy hz
 have hsl := vbK9 p
 have hgs : ∀ k, k < 4 → (setL p).getD k .top = .int .u64 (wP p k : Nat) := fun k hk => by
  have : k = 0 ∨ k = 1 ∨ k = 2 ∨ k = 3 := by omega
  rcases this with rfl|rfl|rfl|rfl <;> rfl
 have htk : (setL p).take 4 = setL p := rfl
 generalize hS : setL p = S at *
 refine xI0 25 [] Tryz.func65 rfl rfl rfl (by simp) ?_
 intro s ⟨a0, a1, hz⟩
 simp only [Nat.zero_add, Nat.reduceAdd] at a1
 clear hz
 repeat' (first|refine nav ?_|(refine g0_ ?_; refine goD ?_)|(with_reducible refine gG ?_ ?_)|((with_reducible refine And.intro (fun h => ?_) (fun h => ?_)) <;> try (exfalso; omega))|(with_reducible refine andG ?_)|fail|simp (disch := (first|exact za0|fail)) only [push_cast, simprocAttr, a0, a1, hsl, htk])
 refine go_loop rfl (fun mz s' H' => ∃ k : Nat, k ≤ 4 ∧ mz = 4 - k ∧ H' = K (elP p k).length ∧ s' 0 = .yld b ∧ s' 1 = .iptr S 0 ∧ s' 5 = .agg S ∧ s' 6 = .int .i64 k ∧ (elP p k).length ≤ q) (m := 4) (by first|exact xb0|fail) (Weak.refl _ _) ⟨0, by omega, by omega, rfl, ?_⟩ ?_
 ·simp (disch := (first|exact za0|fail)) only [push_cast, simprocAttr, a0, a1, hsl, htk]
  simp [elP]
 ·rintro mz s' H' ⟨k, hk, rfl, rfl, b0, b1, b5, b6, ik⟩
  rcases Nat.lt_or_ge k 4 with hlt|hge
  ·have hgk := hgs k hlt
   have hes := kaY9 p k
   repeat' (first|((first|refine nav ?_|(refine g0_ ?_; refine goD ?_)) <;> (try simp (disch := (first|exact za0|fail)) only [push_cast, simprocAttr, b0, b1, b5, b6, hsl, hgk, Nat.mul_one]))|(with_reducible refine gG ?_ ?_)|((with_reducible refine And.intro (fun h => ?_) (fun h => ?_)) <;> try (exfalso; omega))|(with_reducible refine andG ?_)|fail|simp (disch := (first|exact za0|fail)) only [push_cast, simprocAttr, b0, b1, b5, b6, hsl, hgk, Nat.mul_one])
   refine go_loop rfl (fun mz s' H' => ∃ (w j : Nat), w < 2 ^ 64 ∧ ws0 w = (ws0 (wP p k)).drop j ∧ mz = (ws0 w).length ∧ H' = K ((elP p k).length + j) ∧ s' 0 = .yld b ∧ s' 1 = .iptr S 0 ∧ s' 3 = .int .i64 k ∧ s' 4 = .int .u64 w ∧ s' 5 = .agg S ∧ s' 6 = .int .i64 k ∧ (elP p k).length + j ≤ q ∧ j ≤ (ws0 (wP p k)).length) (m := (ws0 (wP p k)).length) (by first|exact xb0|fail) (Weak.refl _ _) ⟨wP p k, 0, qo0 p k, rfl, rfl, ?_⟩ ?_
   ·refine ⟨rfl, ?_, ?_, ?_, ?_, ?_, ?_, ik, Nat.zero_le _⟩
    all_goals simp (disch := (first|exact za0|fail)) only [push_cast, simprocAttr, b0, b1, b5, b6, hsl, hgk, Nat.mul_one]
   ·rintro mz s' H' ⟨w, j, hw, hbw, rfl, rfl, b0, b1, b3, b4, b5, b6, ij, il⟩
    have hlw : (ws0 w).length = (ws0 (wP p k)).length - j := by rw [hbw, List.length_drop]
    by_cases hw0 : w = 0
    ·have hjl : j = (ws0 (wP p k)).length := by rw [hw0, vbZ9] at hlw; simp at hlw; omega
     have hel : (elP p k).length + j = (elP p (k + 1)).length := by rw [hes, List.length_append, qbz9, hjl]
     rw [hel]
     have hw0' : (w : Int) = 0 := by omega
     subst hw0
     repeat' (first|refine nav ?_|(refine g0_ ?_; refine goD ?_)|(with_reducible refine gG ?_ ?_)|((with_reducible refine And.intro (fun h => ?_) (fun h => ?_)) <;> try (exfalso; omega))|(with_reducible refine andG ?_)|fail|simp (disch := (first|exact za0|fail)) only [push_cast, simprocAttr, b0, b1, b3, b4, b5, b6, hsl])
     refine xa0 (4 - (k + 1)) (by omega) (by first|exact xb0|fail) ⟨k + 1, by omega, rfl, rfl, ?_⟩
     simp (disch := (first|exact za0|fail)) only [push_cast, simprocAttr, b0, b1, b3, b4, b5, b6, hsl]
     omega
    ·obtain ⟨hlow, hc64⟩ := vdw9 hw0 hw
     have hst := wbZ9 hlow hc64
     have htz := tz74 w hw0 hw
     obtain ⟨h1, h2⟩ := vdN9 (p := p) (j := j) hlt (by rw [← hbw]; exact hst)
     have hdr : ws0 (w &&& (w - 1)) = (ws0 (wP p k)).drop (j + 1) := by
      have e1 : (ws0 (wP p k)).drop (j + 1) = ((ws0 (wP p k)).drop j).drop 1 := by rw [List.drop_drop]
      rw [e1, ← hbw, hst]; rfl
     have hln : (ws0 (w &&& (w - 1))).length < (ws0 w).length := by rw [hst]; simp
     have hwn := kdN9 w hw
     have hsub : IntKind.u64.wrap ((w : Int) - 1) = (w : Int) - 1 := by
      rw [show (w : Int) - 1 = ((w - 1 : Nat) : Int) by omega]; exact xQ0 _ (by omega)
     have hand : bits .and .u64 (w : Int) ((w : Int) - 1) = ((w &&& (w - 1) : Nat) : Int) := by
      rw [show (w : Int) - 1 = ((w - 1 : Nat) : Int) by omega]; exact wai9 w (w - 1) hw (by omega)
     have hw0' : ¬ (w : Int) = 0 := by omega
     generalize Lib.ctz 64 w = cz at *
     have hv : (((elemsP p).getD ((elP p k).length + j) 0 : Nat) : Int) = (k : Int) * 64 + cz := by rw [h1]; omega
     have hyj := hy ((elP p k).length + j)
     have hzj := hz
     have hjl : j + 1 ≤ (ws0 (wP p k)).length := by omega
     unfold elX at hyj hzj
     have hx : (elP p k).length + (j + 1) = (elP p k).length + j + 1 := by omega
     generalize hcc : (elP p k).length + j = cc at *
     rcases Nat.lt_or_ge cc q with h3|h3
     ·have hyj := hyj h3
      rw [hv] at hyj
      repeat' (first|((first|refine nav ?_|(refine g0_ ?_; refine goD ?_)) <;> (try simp (disch := (first|exact za0|fail)) only [push_cast, simprocAttr, b0, b1, b3, b4, b5, b6, hsl, hw0, hw0', hsub, hand]))|(with_reducible refine gG ?_ ?_)|((with_reducible refine And.intro (fun h => ?_) (fun h => ?_)) <;> try (exfalso; omega))|(with_reducible refine andG ?_)|(first|(refine ⟨_, _, qa0 (htz) (by (simp [idsL, idsE, AV.ids, Nat.add_zero])) _, ?_⟩)|(refine ⟨_, qa0 (htz) (by (simp [idsL, idsE, AV.ids, Nat.add_zero])) _, ?_⟩)|(refine ⟨_, fun _ => qa0 (htz) (by (simp [idsL, idsE, AV.ids, Nat.add_zero])) _, ?_⟩)|(refine ⟨_, _, hyj, ?_⟩)|(refine ⟨_, hyj, ?_⟩)|(refine ⟨_, fun _ => hyj, ?_⟩))|simp (disch := (first|exact za0|fail)) only [push_cast, simprocAttr, b0, b1, b3, b4, b5, b6, hsl, hw0, hw0', hsub, hand])
      refine xa0 (ws0 (w &&& (w - 1))).length hln (by first|exact xb0|fail) ⟨w &&& (w - 1), j + 1, hwn, hdr, rfl, by rw [hx], ?_, ?_, ?_, ?_, ?_, ?_, by omega, hjl⟩
      all_goals simp (disch := (first|exact za0|fail)) only [push_cast, simprocAttr, b0, b1, b3, b4, b5, b6, hsl, hw0, hw0', hsub, hand]
     ·cases stop with
      | false => have := hs2 rfl; omega
      | true =>
       obtain rfl : cc = q := by omega
       have hzj := hzj rfl
       rw [hv] at hzj
       repeat' (first|((first|refine nav ?_|(refine g0_ ?_; refine goD ?_)) <;> (try simp (disch := (first|exact za0|fail)) only [push_cast, simprocAttr, b0, b1, b3, b4, b5, b6, hsl, hw0, hw0', hsub, hand]))|(with_reducible refine gG ?_ ?_)|((with_reducible refine And.intro (fun h => ?_) (fun h => ?_)) <;> try (exfalso; omega))|(with_reducible refine andG ?_)|(first|(refine ⟨_, _, qa0 (htz) (by (simp [idsL, idsE, AV.ids, Nat.add_zero])) _, ?_⟩)|(refine ⟨_, qa0 (htz) (by (simp [idsL, idsE, AV.ids, Nat.add_zero])) _, ?_⟩)|(refine ⟨_, fun _ => qa0 (htz) (by (simp [idsL, idsE, AV.ids, Nat.add_zero])) _, ?_⟩)|(refine ⟨_, _, hzj, ?_⟩)|(refine ⟨_, hzj, ?_⟩)|(refine ⟨_, fun _ => hzj, ?_⟩))|simp (disch := (first|exact za0|fail)) only [push_cast, simprocAttr, b0, b1, b3, b4, b5, b6, hsl, hw0, hw0', hsub, hand])
  ·obtain rfl : k = 4 := by omega
   have hq : q = (elemsP p).length ∧ stop = false := by
    cases stop with
    | false => exact ⟨hs2 rfl, rfl⟩
    | true => have := hs1 rfl; rw [kby9] at ik; omega
   obtain ⟨hq1, rfl⟩ := hq
   subst hq1
   repeat' (first|refine nav ?_|(refine g0_ ?_; refine goD ?_)|(with_reducible refine gG ?_ ?_)|((with_reducible refine And.intro (fun h => ?_) (fun h => ?_)) <;> try (exfalso; omega))|(with_reducible refine andG ?_)|(first|(refine ⟨_, _, qa0 (htz) (by (simp [idsL, idsE, AV.ids, Nat.add_zero])) _, ?_⟩)|(refine ⟨_, qa0 (htz) (by (simp [idsL, idsE, AV.ids, Nat.add_zero])) _, ?_⟩)|(refine ⟨_, fun _ => qa0 (htz) (by (simp [idsL, idsE, AV.ids, Nat.add_zero])) _, ?_⟩)|(refine ⟨_, _, hzj, ?_⟩)|(refine ⟨_, hzj, ?_⟩)|(refine ⟨_, fun _ => hzj, ?_⟩))|simp (disch := (first|exact za0|fail)) only [push_cast, simprocAttr, b0, b1, b5, b6, hsl, kby9])
end Go.Proofs
namespace Go.Proofs
open Go Go.V
set_option linter.unusedVariables false
set_option linter.unusedSimpArgs false
set_option maxHeartbeats 0
def lstC (l : List RC) (s a : Nat) : LC := (l.getD s ([], none)).1.getD a ([], none)
def kaC9 (l : List RC) (p : Nat → Bool) (a q : Nat) (t : Nat) : Bool := ((elemsP p).take q).any fun s => inL (lstC l s a).1 t
theorem qcb9 (l : List RC) (p : Nat → Bool) (a : Nat) : kaC9 l p a 0 = fun _ => false := rfl
theorem zcb9 (l : List RC) (p : Nat → Bool) (a q : Nat) (h : q < (elemsP p).length) : kaC9 l p a (q + 1) = fun t => kaC9 l p a q t || inL (lstC l ((elemsP p).getD q 0) a).1 t := by
 funext t
 rw [kaC9, zg0 _ 0 q h, List.any_append, ← kaC9]; simp
theorem zbm9 (l : List RC) (s a : Nat) (hs : s < l.length) (ha : a < (l.getD s ([], none)).1.length) : lst (rowsV l) s a = (lstC l s a).1 := by
 rw [lst, xw0 l s hs, wJ0 _ a ha]; rfl
theorem qcx9 (l : List RC) (p : Nat → Bool) (a : Nat) (hp : ∀ s ∈ elemsP p, s < l.length ∧ a < (l.getD s ([], none)).1.length) : kaC9 l p a (elemsP p).length = vbl9 (rowsV l) p a := by
 funext t
 rw [kaC9, List.take_length, vbl9, Bool.eq_iff_iff, List.any_eq_true, List.any_eq_true]
 constructor
 ·rintro ⟨s, hs, h⟩; exact ⟨s, hs, by rw [zbm9 l s a (hp s hs).1 (hp s hs).2]; exact h⟩
 ·rintro ⟨s, hs, h⟩; exact ⟨s, hs, by rw [zbm9 l s a (hp s hs).1 (hp s hs).2] at h; exact h⟩
set_option maxRecDepth 100000 in
theorem xdO9 (sym : Int) (zr : Nat) (l : List RC) (c : Option Nat) (zs : Nat) (st : List Int) (cs : Option Nat) (za : Nat) (ac : List Int) (ca : Option Nat) (p : Nat → Bool) (a : Nat)
  (hzr : l = [] ∨ zr = 1) (hl : l.length ≤ 256) (ha : a < 256) (hp : ∀ s ∈ elemsP p, s < l.length ∧ a < (l.getD s ([], none)).1.length) (hi : ∀ s ∈ elemsP p, (lstC l s a).1.length ≤ 9223372036854775807 ∧ ∀ x ∈ (lstC l s a).1, 0 ≤ x ∧ x < 256) (hrl : ∀ s, s < l.length → (l.getD s ([], none)).1.length ≤ 1000) :
  PC Tryz.prog G0 47 [nA sym zr l c zs st cs za ac ca, .agg (setL p), .int .i64 a] (.agg (setL (vbl9 (rowsV l) p a))) := by
 have hA := qdO9 p
 have hit := zdO9 p
 have hRl := we0 l
 have hg := fun s h => zm0 l s h
 have hst0 := qcb9 l p a
 have hidR : ∀ q, idsE q (xc0 l) = true := fun q => wc0 _ _
 rw [← qcx9 l p a hp]
 have hsl := vbK9 p
 have hids := fun f => vh0 f p
 have hQ0 : setL (kaC9 l p a 0) = [.int .u64 0, .int .u64 0, .int .u64 0, .int .u64 0] := by rw [hst0, kac9]
 have hpl : elemsP p = elemsP p := rfl
 generalize hRN : xc0 l = RN at *
 generalize setL p = S at *
 unfold nA
 rw [hRN]
 refine vd0 0 21 [.cell 6 68] Tryz.func47 rfl rfl rfl (by simp) ?_
 intro s ⟨a0, a1, a2, hz⟩
 simp only [Nat.zero_add, Nat.reduceAdd] at a1 a2
 clear hz
 repeat' (first|refine nav ?_|(refine g0_ ?_; refine goD ?_)|(with_reducible refine gG ?_ ?_)|((with_reducible refine And.intro (fun h => ?_) (fun h => ?_)) <;> try (exfalso; omega))|(with_reducible refine andG ?_)|(first|(refine ⟨_, _, qa0 (hA) (by (simp [idsL, idsE, AV.ids, hids, vh0])) _, ?_⟩)|(refine ⟨_, qa0 (hA) (by (simp [idsL, idsE, AV.ids, hids, vh0])) _, ?_⟩)|(refine ⟨_, fun _ => qa0 (hA) (by (simp [idsL, idsE, AV.ids, hids, vh0])) _, ?_⟩))|simp (disch := (first|exact za0|fail)) only [push_cast, simprocAttr, a0, a1, a2, hsl])
 refine wM0 (m := (elemsP p).length) (k := 4) .normal (fun q => [.row 4 29 [[.int .i64 sym, .sl zr RN c, .sl zs (ints st) cs, .sl za (ints ac) ca]], .row 4 68 [S], .row 1 3 [[.int .i64 a]], .row 4 68 [setL (kaC9 l p a q)]]) rfl (by first|exact xb0|fail) ?_ ?_ (by kernel_rfl) hit rfl (by rw [hQ0]) (fun _ => rfl) (fun q => by simp [Blk.below, idsE, idsL, AV.ids, hidR, hids, vh0]) (fun j => ⟨by simp [elX, idsL, AV.ids], rfl⟩) (fun h => by cases h) (fun _ => rfl) rfl (fun q hq s1 hs1 => ?_) (fun h => by cases h) ?_
 ·simp (disch := (first|exact za0|fail)) only [push_cast, simprocAttr, a0, a1, a2, hsl]
 ·simp (disch := (first|exact za0|fail)) only [push_cast, simprocAttr, a0, a1, a2, hsl]
 ·have r3 := (qm0 hs1 3 rfl).trans (show _ = AV.ptr 0 0 0 1 from rfl)
  have r5 := (qm0 hs1 5 rfl).trans (show _ = AV.ptr 2 0 0 1 from rfl)
  have r6 := (qm0 hs1 6 rfl).trans (show _ = AV.ptr 3 0 0 1 from rfl)
  have r10 : s1 10 = .int .i64 ((elemsP p).getD q 0 : Nat) := (hs1 10).trans rfl
  clear hs1
  have hm : (elemsP p).getD q 0 ∈ elemsP p := qd0 hq
  obtain ⟨hn, ha2⟩ := hp _ hm
  obtain rfl := hzr.resolve_left (by intro h; rw [h] at hn; simp at hn)
  obtain ⟨hi1, hi2⟩ := hi _ hm
  have e1 := hg _ hn
  have hrl1 := hrl _ hn
  have hsuc := zcb9 l p a q hq
  have hput := fun S => wdw9 3 1 (lstC l ((elemsP p).getD q 0) a).1 (lstC l ((elemsP p).getD q 0) a).2 [.row 4 29 [[.int .i64 sym, .sl 1 RN c, .sl zs (ints st) cs, .sl za (ints ac) ca]], .row 4 68 [S], .row 1 3 [[.int .i64 a]], .row 4 68 [setL (kaC9 l p a q)]] (kaC9 l p a q) (.inr rfl) hi1 hi2 rfl
  have hput := hput S
  rw [← hsuc] at hput
  have e2 := zh0 (l.getD ((elemsP p).getD q 0) ([], none)).1 a ha2
  have hlc : (l.getD ((elemsP p).getD q 0) ([], none)).1.getD a ([], none) = lstC l ((elemsP p).getD q 0) a := rfl
  rw [hlc] at e2
  generalize lstC l ((elemsP p).getD q 0) a = x at *
  generalize l.getD ((elemsP p).getD q 0) ([], none) = r at *
  generalize (elemsP p).getD q 0 = n at *
  have hrl2 := zc0 r.1
  unfold rC at e1
  unfold lC at e2
  repeat' (first|(first|refine nav ?_|(refine g0_ ?_; first|refine zaV9 (dr := exQ [] [67]) rfl rfl mixed (by first|assumption|kernel_rfl) ?_|refine goD ?_))|(with_reducible refine gG ?_ ?_)|((with_reducible refine And.intro (fun h => ?_) (fun h => ?_)) <;> try (exfalso; omega))|(with_reducible refine andG ?_)|(first|(refine ⟨_, _, hput, ?_⟩)|(refine ⟨_, hput, ?_⟩)|(refine ⟨_, fun _ => hput, ?_⟩))|simp (disch := (first|exact za0|fail)) only [push_cast, simprocAttr, r3, r5, r6, r10, hRl, e1, e2, hrl2])
  refine vaw9 ⟨by first|exact xb0|fail, wcO9 ?_⟩
  repeat' (first|(first|refine nav ?_|(refine g0_ ?_; first|refine zaV9 (dr := exQ [] [67]) rfl rfl mixed (by first|assumption|kernel_rfl) ?_|refine goD ?_))|(with_reducible refine gG ?_ ?_)|((with_reducible refine And.intro (fun h => ?_) (fun h => ?_)) <;> try (exfalso; omega))|(with_reducible refine andG ?_)|(first|(refine ⟨_, _, hput, ?_⟩)|(refine ⟨_, hput, ?_⟩)|(refine ⟨_, fun _ => hput, ?_⟩))|simp (disch := (first|exact za0|fail)) only [push_cast, simprocAttr, r3, r5, r6, r10, hRl, e1, e2, hrl2])
 ·have hj : (if (vg0 Exit.normal).isSome = true then (elemsP p).length + 1 else (elemsP p).length) = (elemsP p).length := rfl
  rw [hj]
  unfold setL
  repeat' (first|(first|refine nav ?_|(refine g0_ ?_; first|refine zaV9 (dr := exQ [] [67]) rfl rfl mixed (by first|assumption|kernel_rfl) ?_|refine goD ?_))|(with_reducible refine gG ?_ ?_)|((with_reducible refine And.intro (fun h => ?_) (fun h => ?_)) <;> try (exfalso; omega))|(with_reducible refine andG ?_)|(first|(refine ⟨_, _, hput, ?_⟩)|(refine ⟨_, hput, ?_⟩)|(refine ⟨_, fun _ => hput, ?_⟩))|simp (disch := (first|exact za0|fail)) only [push_cast, simprocAttr, a0, a1, a2])
end Go.Proofs
