import Derived.Test.YtcoakjnmnommpaaGreatDoorA2
import Derived.Test.YtcoakjnmnommpaaGreatDoorA6
namespace Go.Proofs
open Go Go.V
set_option linter.unusedVariables false
set_option linter.unusedSimpArgs false
set_option maxHeartbeats 0
theorem zej9 {l : List Int} {n : Int} (h : ∀ j, j < l.length → l.getD j 0 ≠ n) : l.contains n = false := by
 rw [n'J];intro q;obtain ⟨j, hj, e⟩ := l'G (l'h.1 q);refine h j hj ?_;rw [l'b, l'e hj]; exact e
theorem kdP9 {l : List Int} {n : Int} {j : Nat} (hj : j < l.length) (h : l.getD j 0 = n) : l.contains n = true := by
 rw [l'h, ← h]; exact wc0 hj
set_option maxRecDepth 100000 in
theorem xej9 (z : Nat) (l : List Int) (c : Option Nat) (n : Int) (hz : l = [] ∨ z = 1) (hl : l.length ≤ 9223372036854775807) : PC Tryz.prog G0 43 [.sl z (ints l) c, .int .i64 n] (.int .i64 (if l.contains n = true then 1 else 0)) := by
 have hil := xa0 l;have hno := zej9 (l := l) (n := n);have hye := fun j => kdP9 (l := l) (n := n) (j := j);generalize l.contains n = R at *;refine qc0 0 18 [.tmp 4] Tryz.func43 rfl rfl rfl (by simp) ?_;intro s ⟨a0, a1, hz⟩;simp only [l'm, Nat.reduceAdd] at a1;clear hz;repeat' (first|refine nv ?_|(with_reducible first|refine gG ?_ ?_|refine ⟨fun h => ?_, fun h => ?_⟩ <;> try omega|refine andG ?_)|simp (disch := try exact qa0) only [push_cast, simprocAttr, a0, a1, hil])
 refine go_loop rfl (fun mz s' H' => ∃ k : Nat, k ≤ l.length ∧ mz = l.length - k ∧ H' = [] ∧ s' 0 = .sl z (ints l) c ∧ s' 1 = .int .i64 n ∧ s' 5 = .int .i64 k ∧ (∀ j, j < k → l.getD j 0 ≠ n)) (m := l.length) (by first|exact va0|fail) (Weak.refl _ _) ⟨0, by omega, by omega, rfl, ?_⟩ ?_
 ·refine ⟨?_, ?_, ?_, fun j hj => by omega⟩;all_goals simp (disch := try exact qa0) only [push_cast, simprocAttr, a0, a1, hil]
 ·rintro mz s' H' ⟨k, hk, rfl, rfl, b0, b1, b5, ik⟩;rcases l'i k l.length with hlt|hge
  ·obtain rfl := hz.resolve_left (by intro h; rw [h] at hlt; simp at hlt);have e1 := xc0 l k hlt;have hye := hye k hlt;have hsn := kaf9 (P := fun j => l.getD j 0 ≠ n) (k := k) ik;generalize l.getD k 0 = x at *;by_cases h1 : x = n
   ·rw [hye h1];repeat' (first|refine nv ?_|(with_reducible first|refine gG ?_ ?_|refine ⟨fun h => ?_, fun h => ?_⟩ <;> try omega|refine andG ?_)|simp (disch := try exact qa0) only [push_cast, simprocAttr, b0, b1, b5, e1, h1, hil])
   ·have hsn := hsn h1;repeat' (first|refine nv ?_|(with_reducible first|refine gG ?_ ?_|refine ⟨fun h => ?_, fun h => ?_⟩ <;> try omega|refine andG ?_)|simp (disch := try exact qa0) only [push_cast, simprocAttr, b0, b1, b5, e1, h1, hil])
    refine za0 (l.length - (k + 1)) (by omega) (by first|exact va0|fail) ⟨k + 1, by omega, rfl, rfl, ?_, ?_, ?_, hsn⟩;all_goals simp (disch := try exact qa0) only [push_cast, simprocAttr, b0, b1, b5, e1, h1, hil]
  ·obtain rfl : k = l.length := by omega
   rw [hno ik];repeat' (first|refine nv ?_|(with_reducible first|refine gG ?_ ?_|refine ⟨fun h => ?_, fun h => ?_⟩ <;> try omega|refine andG ?_)|simp (disch := try exact qa0) only [push_cast, simprocAttr, b0, b1, b5, hil])
theorem qbW9 {α : Type} {l r : List α} (d : α) (h : l.length = r.length) (hh : ∀ j, j < l.length → l.getD j d = r.getD j d) : l = r := by
 refine l'W h fun j h1 h2 => ?_;have := hh j h1;simpa [h1, h2] using this
set_option maxRecDepth 100000 in
theorem zbW9 (z : Nat) (l : List Int) (c : Option Nat) (z' : Nat) (r : List Int) (c' : Option Nat) (hz : l = [] ∨ z = 1) (hz' : r = [] ∨ z' = 1) (hl : l.length ≤ 9223372036854775807) (hr : r.length ≤ 9223372036854775807) : PC Tryz.prog G0 42 [.sl z (ints l) c, .sl z' (ints r) c'] (.int .i64 (if l = r then 1 else 0)) := by
 have hil := xa0 l;have hir := xa0 r;by_cases hlen : l.length = r.length
 ·have hext := qbW9 (0 : Int) hlen;refine qc0 0 26 [.tmp 4] Tryz.func42 rfl rfl rfl (by simp) ?_;intro s ⟨a0, a1, hz⟩;simp only [l'm, Nat.reduceAdd] at a1;clear hz;repeat' (first|refine nv ?_|(with_reducible first|refine gG ?_ ?_|refine ⟨fun h => ?_, fun h => ?_⟩ <;> try omega|refine andG ?_)|simp (disch := try exact qa0) only [push_cast, simprocAttr, a0, a1, hil, hir, hlen])
  refine go_loop rfl (fun mz s' H' => ∃ k : Nat, k ≤ r.length ∧ mz = r.length - k ∧ H' = [] ∧ s' 0 = .sl z (ints l) c ∧ s' 1 = .sl z' (ints r) c' ∧ s' 5 = .int .i64 k ∧ (∀ j, j < k → l.getD j 0 = r.getD j 0)) (m := r.length) (by first|exact va0|fail) (Weak.refl _ _) ⟨0, by omega, by omega, rfl, ?_⟩ ?_
  ·refine ⟨?_, ?_, ?_, fun j hj => by omega⟩;all_goals simp (disch := try exact qa0) only [push_cast, simprocAttr, a0, a1, hil, hir, hlen]
  ·rintro mz s' H' ⟨k, hk, rfl, rfl, b0, b1, b5, ik⟩;rcases l'i k r.length with hlt|hge
   ·obtain rfl := hz.resolve_left (by intro h; rw [h] at hlen; simp at hlen; omega);obtain rfl := hz'.resolve_left (by intro h; rw [h] at hlt; simp at hlt);have e1 := xc0 l k (by omega);have e2 := xc0 r k hlt;have hsn := kaf9 (P := fun j => l.getD j 0 = r.getD j 0) (k := k) ik;have hne : l.getD k 0 ≠ r.getD k 0 → ¬ l = r := fun h e => h (by rw [e]);generalize l.getD k 0 = x at *;generalize r.getD k 0 = y at *;by_cases h1 : x = y
    ·have hsn2 := hsn h1;subst h1;repeat' (first|refine nv ?_|(with_reducible first|refine gG ?_ ?_|refine ⟨fun h => ?_, fun h => ?_⟩ <;> try omega|refine andG ?_)|simp (disch := try exact qa0) only [push_cast, simprocAttr, b0, b1, b5, e1, e2, hil, hir, hlen])
     refine za0 (r.length - (k + 1)) (by omega) (by first|exact va0|fail) ⟨k + 1, by omega, rfl, rfl, ?_, ?_, ?_, hsn2⟩;all_goals simp (disch := try exact qa0) only [push_cast, simprocAttr, b0, b1, b5, e1, e2, hil, hir, hlen]
    ·rw [if_neg (hne h1)];repeat' (first|refine nv ?_|(with_reducible first|refine gG ?_ ?_|refine ⟨fun h => ?_, fun h => ?_⟩ <;> try omega|refine andG ?_)|simp (disch := try exact qa0) only [push_cast, simprocAttr, b0, b1, b5, e1, e2, h1, hil, hir, hlen])
   ·obtain rfl : k = r.length := by omega
    rw [if_pos (hext (fun j hj => ik j (by omega)))];repeat' (first|refine nv ?_|(with_reducible first|refine gG ?_ ?_|refine ⟨fun h => ?_, fun h => ?_⟩ <;> try omega|refine andG ?_)|simp (disch := try exact qa0) only [push_cast, simprocAttr, b0, b1, b5, hil, hir, hlen])
 ·rw [if_neg (fun e => hlen (by rw [e]))];have hlen2 : ¬ (l.length : Int) = r.length := by omega
  refine qc0 0 26 [.tmp 4] Tryz.func42 rfl rfl rfl (by simp) ?_;intro s ⟨a0, a1, hz⟩;simp only [l'm, Nat.reduceAdd] at a1;clear hz;repeat' (first|refine nv ?_|(with_reducible first|refine gG ?_ ?_|refine ⟨fun h => ?_, fun h => ?_⟩ <;> try omega|refine andG ?_)|simp (disch := try exact qa0) only [push_cast, simprocAttr, a0, a1, hil, hir, hlen, hlen2])
def wlP (p : Nat → Bool) (i : Nat) : List Nat := (qu0 (wP p i)).map fun b => 64 * i + b
def elP (p : Nat → Bool) (k : Nat) : List Nat := (List.range k).flatMap (wlP p)
theorem wbK9 (p : Nat → Bool) : elP p 4 = elemsP p := (qbx9 p).symm
theorem vbj9 (p : Nat → Bool) (k : Nat) : elP p (k + 1) = elP p k ++ wlP p k := by rw [elP, l'Z, List.flatMap_append]; simp [elP]
theorem vbK9 (p : Nat → Bool) (k : Nat) : (wlP p k).length = (qu0 (wP p k)).length := by simp [wlP]
theorem qdQ9 (p : Nat → Bool) (k : Nat) (h : k ≤ 4) : ∃ t, elemsP p = elP p k ++ t := by
 have : ∀ d, ∃ t, elP p (k + d) = elP p k ++ t := by
  intro d;induction d with
  | zero => exact ⟨[], by simp⟩
  | succ d ih =>
   obtain ⟨t, ht⟩ := ih;exact ⟨t ++ wlP p (k + d), by rw [← l'V, vbj9, ht, l'A]⟩
 obtain ⟨t, ht⟩ := this (4 - k);rw [show k + (4 - k) = 4 by omega, wbK9] at ht;exact ⟨t, ht⟩
theorem wej9 {p : Nat → Bool} {k j b : Nat} {r : List Nat} (hk : k < 4) (h : (qu0 (wP p k)).drop j = b :: r) : (elemsP p).getD ((elP p k).length + j) 0 = 64 * k + b ∧ (elP p k).length + j < (elemsP p).length := by
 obtain ⟨t, ht⟩ := qdQ9 p (k + 1) (by omega);rw [vbj9] at ht;have hj : j < (qu0 (wP p k)).length := by
  rcases l'i j (qu0 (wP p k)).length with q|q
  ·exact q
  ·rw [l'z q] at h; cases h
 have hb : (qu0 (wP p k))[j] = b := by
  have := z'p hj;rw [h] at this;exact (List.cons.inj this).1.symm
 rw [ht];constructor
 ·rw [l'A, l'b, l'r (by omega), n'I, l'd (by rw [vbK9]; exact hj), wlP, l'p, l'e hj, hb];rfl
 ·simp only [l'v, vbK9]; omega
def elX (p : Nat → Bool) (q : Nat) : List AV := [.int .i64 ((elemsP p).getD q 0 : Nat)]
theorem vej9 (w : Nat) (h : w < 2 ^ 64) : w &&& (w - 1) < 2 ^ 64 := Nat.and_lt_two_pow _ (by omega)
set_option maxRecDepth 100000 in
theorem kej9 (p : Nat → Bool) : PC Tryz.prog G0 38 [.agg (setL p)] (.fn 65 [.iptr (setL p) 0]) := by
 unfold setL;refine qc0 3 4 [.tmp 2] Tryz.func38 rfl rfl rfl (by simp) ?_;intro s ⟨a0, hz⟩;clear hz;repeat' (first|refine nv ?_|(with_reducible first|refine gG ?_ ?_|refine ⟨fun h => ?_, fun h => ?_⟩ <;> try omega|refine andG ?_)|simp (disch := try exact qa0) only [push_cast, simprocAttr, a0])
set_option maxRecDepth 100000 in
theorem qek9 (p : Nat → Bool) : Iter Tryz.prog G0 65 [.iptr (setL p) 0] (elX p) (elemsP p).length := by
 intro K b q stop hs1 hs2 hy hz;have hsl := kbV9 p;have hgs : ∀ k, k < 4 → (setL p).getD k .top = .int .u64 (wP p k : Nat) := fun k hk => by
  have : k = 0 ∨ k = 1 ∨ k = 2 ∨ k = 3 := by omega
  rcases this with rfl|rfl|rfl|rfl <;> rfl
 have htk : (setL p).take 4 = setL p := rfl;generalize hS : setL p = S at *;refine zJ0 25 [] Tryz.func65 rfl rfl rfl (by simp) ?_;intro s ⟨a0, a1, hz⟩;simp only [l'm, Nat.reduceAdd] at a1;clear hz;repeat' (first|refine nv ?_|(with_reducible first|refine gG ?_ ?_|refine ⟨fun h => ?_, fun h => ?_⟩ <;> try omega|refine andG ?_)|simp (disch := try exact qa0) only [push_cast, simprocAttr, a0, a1, hsl, htk])
 refine go_loop rfl (fun mz s' H' => ∃ k : Nat, k ≤ 4 ∧ mz = 4 - k ∧ H' = K (elP p k).length ∧ s' 0 = .yld b ∧ s' 1 = .iptr S 0 ∧ s' 5 = .agg S ∧ s' 6 = .int .i64 k ∧ (elP p k).length ≤ q) (m := 4) (by first|exact va0|fail) (Weak.refl _ _) ⟨0, by omega, by omega, rfl, ?_⟩ ?_
 ·simp (disch := try exact qa0) only [push_cast, simprocAttr, a0, a1, hsl, htk];simp [elP]
 ·rintro mz s' H' ⟨k, hk, rfl, rfl, b0, b1, b5, b6, ik⟩;rcases l'i k 4 with hlt|hge
  ·have hgk := hgs k hlt;have hes := vbj9 p k;repeat' (first|(refine nv ?_ <;> (try simp (disch := try exact qa0) only [push_cast, simprocAttr, b0, b1, b5, b6, hsl, hgk, z's]))|(with_reducible first|refine gG ?_ ?_|refine ⟨fun h => ?_, fun h => ?_⟩ <;> try omega|refine andG ?_)|simp (disch := try exact qa0) only [push_cast, simprocAttr, b0, b1, b5, b6, hsl, hgk, z's])
   refine go_loop rfl (fun mz s' H' => ∃ (w j : Nat), w < 2 ^ 64 ∧ qu0 w = (qu0 (wP p k)).drop j ∧ mz = (qu0 w).length ∧ H' = K ((elP p k).length + j) ∧ s' 0 = .yld b ∧ s' 1 = .iptr S 0 ∧ s' 3 = .int .i64 k ∧ s' 4 = .int .u64 w ∧ s' 5 = .agg S ∧ s' 6 = .int .i64 k ∧ (elP p k).length + j ≤ q ∧ j ≤ (qu0 (wP p k)).length) (m := (qu0 (wP p k)).length) (by first|exact va0|fail) (Weak.refl _ _) ⟨wP p k, 0, kn0 p k, rfl, rfl, ?_⟩ ?_
   ·refine ⟨rfl, ?_, ?_, ?_, ?_, ?_, ?_, ik, n'X _⟩;all_goals simp (disch := try exact qa0) only [push_cast, simprocAttr, b0, b1, b5, b6, hsl, hgk, z's]
   ·rintro mz s' H' ⟨w, j, hw, hbw, rfl, rfl, b0, b1, b3, b4, b5, b6, ij, il⟩;have hlw : (qu0 w).length = (qu0 (wP p k)).length - j := by rw [hbw, z'H]
    by_cases hw0 : w = 0
    ·have hjl : j = (qu0 (wP p k)).length := by rw [hw0, qcl9] at hlw; simp at hlw; omega
     have hel : (elP p k).length + j = (elP p (k + 1)).length := by rw [hes, l'v, vbK9, hjl]
     rw [hel];have hw0' : (w : Int) = 0 := by omega
     subst hw0;repeat' (first|refine nv ?_|(with_reducible first|refine gG ?_ ?_|refine ⟨fun h => ?_, fun h => ?_⟩ <;> try omega|refine andG ?_)|simp (disch := try exact qa0) only [push_cast, simprocAttr, b0, b1, b3, b4, b5, b6, hsl])
     refine za0 (4 - (k + 1)) (by omega) (by first|exact va0|fail) ⟨k + 1, by omega, rfl, rfl, ?_⟩;simp (disch := try exact qa0) only [push_cast, simprocAttr, b0, b1, b3, b4, b5, b6, hsl];omega
    ·obtain ⟨hlow, hc64⟩ := zdP9 hw0 hw;have hst := kck9 hlow hc64;have htz := tz74 w hw0 hw;obtain ⟨h1, h2⟩ := wej9 (p := p) (j := j) hlt (by rw [← hbw]; exact hst);have hdr : qu0 (w &&& (w - 1)) = (qu0 (wP p k)).drop (j + 1) := by
      have e1 : (qu0 (wP p k)).drop (j + 1) = ((qu0 (wP p k)).drop j).drop 1 := by rw [z'D]
      rw [e1, ← hbw, hst]; rfl
     have hln : (qu0 (w &&& (w - 1))).length < (qu0 w).length := by rw [hst]; simp
     have hwn := vej9 w hw;have hsub : IntKind.u64.wrap ((w : Int) - 1) = (w : Int) - 1 := by
      rw [show (w : Int) - 1 = ((w - 1 : Nat) : Int) by omega]; exact zam9 _ (by omega)
     have hand : bits .and .u64 (w : Int) ((w : Int) - 1) = ((w &&& (w - 1) : Nat) : Int) := by
      rw [show (w : Int) - 1 = ((w - 1 : Nat) : Int) by omega]; exact qas9 w (w - 1) hw (by omega)
     have hw0' : ¬ (w : Int) = 0 := by omega
     generalize Lib.ctz 64 w = cz at *;have hv : (((elemsP p).getD ((elP p k).length + j) 0 : Nat) : Int) = (k : Int) * 64 + cz := by rw [h1]; omega
     have hyj := hy ((elP p k).length + j);have hzj := hz;have hjl : j + 1 ≤ (qu0 (wP p k)).length := by omega
     unfold elX at hyj hzj;have hx : (elP p k).length + (j + 1) = (elP p k).length + j + 1 := by omega
     generalize hcc : (elP p k).length + j = cc at *;rcases l'i cc q with h3|h3
     ·have hyj := hyj h3;rw [hv] at hyj;repeat' (first|(refine nv ?_ <;> (try simp (disch := try exact qa0) only [push_cast, simprocAttr, b0, b1, b3, b4, b5, b6, hsl, hw0, hw0', hsub, hand]))|(with_reducible first|refine gG ?_ ?_|refine ⟨fun h => ?_, fun h => ?_⟩ <;> try omega|refine andG ?_)|refine cp_ htz ?_|refine cl_ hyj ?_|simp (disch := try exact qa0) only [push_cast, simprocAttr, b0, b1, b3, b4, b5, b6, hsl, hw0, hw0', hsub, hand])
      refine za0 (qu0 (w &&& (w - 1))).length hln (by first|exact va0|fail) ⟨w &&& (w - 1), j + 1, hwn, hdr, rfl, by rw [hx], ?_, ?_, ?_, ?_, ?_, ?_, by omega, hjl⟩;all_goals simp (disch := try exact qa0) only [push_cast, simprocAttr, b0, b1, b3, b4, b5, b6, hsl, hw0, hw0', hsub, hand]
     ·cases stop with
      | false => have := hs2 rfl; omega
      | true =>
       obtain rfl : cc = q := by omega
       have hzj := hzj rfl;rw [hv] at hzj;repeat' (first|(refine nv ?_ <;> (try simp (disch := try exact qa0) only [push_cast, simprocAttr, b0, b1, b3, b4, b5, b6, hsl, hw0, hw0', hsub, hand]))|(with_reducible first|refine gG ?_ ?_|refine ⟨fun h => ?_, fun h => ?_⟩ <;> try omega|refine andG ?_)|refine cp_ htz ?_|refine cl_ hzj ?_|simp (disch := try exact qa0) only [push_cast, simprocAttr, b0, b1, b3, b4, b5, b6, hsl, hw0, hw0', hsub, hand])
  ·obtain rfl : k = 4 := by omega
   have hq : q = (elemsP p).length ∧ stop = false := by
    cases stop with
    | false => exact ⟨hs2 rfl, rfl⟩
    | true => have := hs1 rfl; rw [wbK9] at ik; omega
   obtain ⟨hq1, rfl⟩ := hq;subst hq1;repeat' (first|refine nv ?_|(with_reducible first|refine gG ?_ ?_|refine ⟨fun h => ?_, fun h => ?_⟩ <;> try omega|refine andG ?_)|refine cp_ htz ?_|refine cl_ hzj ?_|simp (disch := try exact qa0) only [push_cast, simprocAttr, b0, b1, b5, b6, hsl, wbK9])
def lstC (l : List RC) (s a : Nat) : LC := (l.getD s ([], none)).1.getD a ([], none)
def zaL9 (l : List RC) (p : Nat → Bool) (a q : Nat) (t : Nat) : Bool := ((elemsP p).take q).any fun s => inL (lstC l s a).1 t
theorem wcm9 (l : List RC) (p : Nat → Bool) (a : Nat) : zaL9 l p a 0 = fun _ => false := rfl
theorem vcm9 (l : List RC) (p : Nat → Bool) (a q : Nat) (h : q < (elemsP p).length) : zaL9 l p a (q + 1) = fun t => zaL9 l p a q t || inL (lstC l ((elemsP p).getD q 0) a).1 t := by
 funext t
 rw [zaL9, xd0 _ 0 q h, n'K, ← zaL9]; simp
theorem vby9 (l : List RC) (s a : Nat) (hs : s < l.length) (ha : a < (l.getD s ([], none)).1.length) : lst (rowsV l) s a = (lstC l s a).1 := by
 rw [lst, qL0 l s hs, kam9 _ a ha]; rfl
theorem zcJ9 (l : List RC) (p : Nat → Bool) (a : Nat) (hp : ∀ s ∈ elemsP p, s < l.length ∧ a < (l.getD s ([], none)).1.length) : zaL9 l p a (elemsP p).length = zbx9 (rowsV l) p a := by
 funext t
 rw [zaL9, l'x, zbx9, l'u, l'y, l'y];constructor
 ·rintro ⟨s, hs, h⟩; exact ⟨s, hs, by rw [vby9 l s a (hp s hs).1 (hp s hs).2]; exact h⟩
 ·rintro ⟨s, hs, h⟩; exact ⟨s, hs, by rw [vby9 l s a (hp s hs).1 (hp s hs).2] at h; exact h⟩
set_option maxRecDepth 100000 in
theorem zek9 (sym : Int) (zr : Nat) (l : List RC) (c : Option Nat) (zs : Nat) (st : List Int) (cs : Option Nat) (za : Nat) (ac : List Int) (ca : Option Nat) (p : Nat → Bool) (a : Nat)
  (hzr : l = [] ∨ zr = 1) (hl : l.length ≤ 256) (ha : a < 256) (hp : ∀ s ∈ elemsP p, s < l.length ∧ a < (l.getD s ([], none)).1.length) (hi : ∀ s ∈ elemsP p, (lstC l s a).1.length ≤ 9223372036854775807 ∧ ∀ x ∈ (lstC l s a).1, 0 ≤ x ∧ x < 256) (hrl : ∀ s, s < l.length → (l.getD s ([], none)).1.length ≤ 1000) :
  PC Tryz.prog G0 47 [nA sym zr l c zs st cs za ac ca, .agg (setL p), .int .i64 a] (.agg (setL (zbx9 (rowsV l) p a))) := by
 have hA := kej9 p;have hit := qek9 p;have hRl := vh0 l;have hg := fun s h => qq0 l s h;have hst0 := wcm9 l p a;have hidR : ∀ q, idsE q (xe0 l) = true := fun q => ze0 _ _;rw [← zcJ9 l p a hp];have hsl := kbV9 p;have hids := fun f => xu0 f p;have hQ0 : setL (zaL9 l p a 0) = [.int .u64 0, .int .u64 0, .int .u64 0, .int .u64 0] := by rw [hst0, zan9]
 have hpl : elemsP p = elemsP p := rfl;generalize hRN : xe0 l = RN at *;generalize setL p = S at *;unfold nA;rw [hRN];refine qc0 0 21 [.cell 6 68] Tryz.func47 rfl rfl rfl (by simp) ?_;intro s ⟨a0, a1, a2, hz⟩;simp only [l'm, Nat.reduceAdd] at a1 a2;clear hz;repeat' (first|refine nv ?_|(with_reducible first|refine gG ?_ ?_|refine ⟨fun h => ?_, fun h => ?_⟩ <;> try omega|refine andG ?_)|refine cp_ hA ?_ (hi := by (simp [idsL, idsE, AV.ids, hids, xu0]))|simp (disch := try exact qa0) only [push_cast, simprocAttr, a0, a1, a2, hsl])
 refine kT0 (m := (elemsP p).length) (k := 4) .normal (fun q => [.row 4 29 [[.int .i64 sym, .sl zr RN c, .sl zs (ints st) cs, .sl za (ints ac) ca]], .row 4 68 [S], .row 1 3 [[.int .i64 a]], .row 4 68 [setL (zaL9 l p a q)]]) rfl (by first|exact va0|fail) ?_ ?_ (by kernel_rfl) hit rfl (by rw [hQ0]) (fun _ => rfl) (fun q => by simp [Blk.below, idsE, idsL, AV.ids, hidR, hids, xu0]) (fun j => ⟨by simp [elX, idsL, AV.ids], rfl⟩) (fun h => by cases h) (fun _ => rfl) rfl (fun q hq s1 hs1 => ?_) (fun h => by cases h) ?_
 ·simp (disch := try exact qa0) only [push_cast, simprocAttr, a0, a1, a2, hsl]
 ·simp (disch := try exact qa0) only [push_cast, simprocAttr, a0, a1, a2, hsl]
 ·have r3 := (kk0 hs1 3 rfl).trans (show _ = AV.ptr 0 0 0 1 from rfl);have r5 := (kk0 hs1 5 rfl).trans (show _ = AV.ptr 2 0 0 1 from rfl);have r6 := (kk0 hs1 6 rfl).trans (show _ = AV.ptr 3 0 0 1 from rfl);have r10 : s1 10 = .int .i64 ((elemsP p).getD q 0 : Nat) := (hs1 10).trans rfl;clear hs1;have hm : (elemsP p).getD q 0 ∈ elemsP p := wc0 hq;obtain ⟨hn, ha2⟩ := hp _ hm;obtain rfl := hzr.resolve_left (by intro h; rw [h] at hn; simp at hn);obtain ⟨hi1, hi2⟩ := hi _ hm;have e1 := hg _ hn;have hrl1 := hrl _ hn;have hsuc := vcm9 l p a q hq;have hput := fun S => qdP9 3 1 (lstC l ((elemsP p).getD q 0) a).1 (lstC l ((elemsP p).getD q 0) a).2 [.row 4 29 [[.int .i64 sym, .sl 1 RN c, .sl zs (ints st) cs, .sl za (ints ac) ca]], .row 4 68 [S], .row 1 3 [[.int .i64 a]], .row 4 68 [setL (zaL9 l p a q)]] (zaL9 l p a q) (.inr rfl) hi1 hi2 rfl;have hput := hput S;rw [← hsuc] at hput;have e2 := xg0 (l.getD ((elemsP p).getD q 0) ([], none)).1 a ha2;have hlc : (l.getD ((elemsP p).getD q 0) ([], none)).1.getD a ([], none) = lstC l ((elemsP p).getD q 0) a := rfl;rw [hlc] at e2;generalize lstC l ((elemsP p).getD q 0) a = x at *;generalize l.getD ((elemsP p).getD q 0) ([], none) = r at *;generalize (elemsP p).getD q 0 = n at *;have hrl2 := zb0 r.1;unfold rC at e1;unfold lC at e2;repeat' (first|(first|refine nav ?_|(refine g0_ ?_; first|refine kaE9 (dr := exQ [] [67]) rfl rfl mixed (by first|assumption|kernel_rfl) ?_|refine goD ?_))|(with_reducible first|refine gG ?_ ?_|refine ⟨fun h => ?_, fun h => ?_⟩ <;> try omega|refine andG ?_)|refine cl_ hput ?_|simp (disch := try exact qa0) only [push_cast, simprocAttr, r3, r5, r6, r10, hRl, e1, e2, hrl2])
  refine qaF9 ⟨by first|exact va0|fail, kcx9 ?_⟩;repeat' (first|(first|refine nav ?_|(refine g0_ ?_; first|refine kaE9 (dr := exQ [] [67]) rfl rfl mixed (by first|assumption|kernel_rfl) ?_|refine goD ?_))|(with_reducible first|refine gG ?_ ?_|refine ⟨fun h => ?_, fun h => ?_⟩ <;> try omega|refine andG ?_)|refine cl_ hput ?_|simp (disch := try exact qa0) only [push_cast, simprocAttr, r3, r5, r6, r10, hRl, e1, e2, hrl2])
 ·have hj : (if (kg0 Exit.normal).isSome = true then (elemsP p).length + 1 else (elemsP p).length) = (elemsP p).length := rfl;rw [hj];unfold setL;repeat' (first|(first|refine nav ?_|(refine g0_ ?_; first|refine kaE9 (dr := exQ [] [67]) rfl rfl mixed (by first|assumption|kernel_rfl) ?_|refine goD ?_))|(with_reducible first|refine gG ?_ ?_|refine ⟨fun h => ?_, fun h => ?_⟩ <;> try omega|refine andG ?_)|refine cl_ hput ?_|simp (disch := try exact qa0) only [push_cast, simprocAttr, a0, a1, a2])
def badW (n x : Int) : Bool := decide (x < 0) || decide (n ≤ x)
set_option maxRecDepth 100000 in
theorem zdQ9 (x n : Int) (b : Nat) (H : List Blk) (hb : H[b]? = some (.row 1 3 [[.int .i64 n]])) : wd0 Tryz.prog G0 69 [.int .i64 x, .ptr b 0 0 1] H (.bool (badW n x)) H := by
 by_cases h1 : x < 0
 ·rw [show badW n x = true by simp [badW, h1]];refine zJ0 11 [.tmp 3] Tryz.func69 rfl rfl rfl (by simp) ?_;intro s ⟨a0, a1, hz⟩;simp only [l'm, Nat.reduceAdd] at a1;clear hz;repeat' (first|refine nv ?_|(with_reducible first|refine gG ?_ ?_|refine ⟨fun h => ?_, fun h => ?_⟩ <;> try omega|refine andG ?_)|simp (disch := try exact qa0) only [push_cast, simprocAttr, a0, a1, hb, h1])
 ·by_cases h2 : n ≤ x
  ·rw [show badW n x = true by simp [badW, h2]];refine zJ0 11 [.tmp 3] Tryz.func69 rfl rfl rfl (by simp) ?_;intro s ⟨a0, a1, hz⟩;simp only [l'm, Nat.reduceAdd] at a1;clear hz;repeat' (first|refine nv ?_|(with_reducible first|refine gG ?_ ?_|refine ⟨fun h => ?_, fun h => ?_⟩ <;> try omega|refine andG ?_)|simp (disch := try exact qa0) only [push_cast, simprocAttr, a0, a1, hb, h1, h2])
  ·rw [show badW n x = false by simp [badW, h1, h2]];refine zJ0 11 [.tmp 3] Tryz.func69 rfl rfl rfl (by simp) ?_;intro s ⟨a0, a1, hz⟩;simp only [l'm, Nat.reduceAdd] at a1;clear hz;repeat' (first|refine nv ?_|(with_reducible first|refine gG ?_ ?_|refine ⟨fun h => ?_, fun h => ?_⟩ <;> try omega|refine andG ?_)|simp (disch := try exact qa0) only [push_cast, simprocAttr, a0, a1, hb, h1, h2])
def idxM (p : Int → Bool) (xs : List Int) : Int := match xs.findIdx? p with|some k => k|none => -1
theorem zdm9 {p : Int → Bool} {xs : List Int} {k : Nat} (hk : k < xs.length) (h : p (xs.getD k 0) = true) (hm : ∀ j, j < k → p (xs.getD j 0) = false) : idxM p xs = k := by
 have : xs.findIdx? p = some k := by
  rw [List.findIdx?_eq_some_iff_getElem];refine ⟨hk, ?_, fun j hj => ?_⟩
  ·rw [l'b, l'e hk] at h; exact h
  ·have := hm j hj;rw [l'b, l'e (by omega)] at this;simpa using this
 rw [idxM, this]
theorem xcJ9 {p : Int → Bool} {xs : List Int} (hm : ∀ j, j < xs.length → p (xs.getD j 0) = false) : idxM p xs = -1 := by
 have : xs.findIdx? p = none := by
  rw [List.findIdx?_eq_none_iff];intro x hx;obtain ⟨j, hj, rfl⟩ := l'G hx;have := hm j hj;rw [l'b, l'e hj] at this;exact this
 rw [idxM, this]
theorem xdm9 (p : Int → Bool) (xs : List Int) : decide (0 ≤ idxM p xs) = xs.any p := by
 unfold idxM;cases h : xs.findIdx? p with
 | none =>
  rw [List.findIdx?_eq_none_iff] at h;have : xs.any p = false := by rw [z'j]; intro x hx; rw [h x hx]; decide
  rw [this]; rfl
 | some k =>
  obtain ⟨hk, h1, _⟩ := List.findIdx?_eq_some_iff_getElem.1 h;have : xs.any p = true := by rw [l'y]; exact ⟨_, l'X hk, h1⟩
  rw [this]; simp
set_option maxRecDepth 100000 in
theorem kbK9 (p : Int → Bool) (g : FuncId) (cap : List AV) (z : Nat) (xs : List Int) (c : Option Nat) (H : List Blk) (hent : ka0 Tryz.prog g = true) (hp : ∀ x, wd0 Tryz.prog G0 g (.int .i64 x :: cap) H (.bool (p x)) H) (hz : xs = [] ∨ z = 1) (hx : xs.length ≤ 9223372036854775807) :
  wd0 Tryz.prog G0 77 [.sl z (ints xs) c, .fn g cap] H (.int .i64 (idxM p xs)) H := by
 have hil := xa0 xs;refine zJ0 19 [.tmp 4] Tryz.func77 rfl rfl rfl (by simp) ?_;intro s ⟨a0, a1, hz⟩;simp only [l'm, Nat.reduceAdd] at a1;clear hz;repeat' (first|refine nv ?_|(with_reducible first|refine gG ?_ ?_|refine ⟨fun h => ?_, fun h => ?_⟩ <;> try omega|refine andG ?_)|simp (disch := try exact qa0) only [push_cast, simprocAttr, a0, a1, hil, hent])
 refine go_loop rfl (fun mz s' H' => ∃ k : Nat, k ≤ xs.length ∧ mz = xs.length - k ∧ H' = H ∧ s' 0 = .sl z (ints xs) c ∧ s' 1 = .fn g cap ∧ s' 7 = .int .i64 xs.length ∧ s' 8 = .int .i64 k ∧ (∀ j, j < k → p (xs.getD j 0) = false)) (m := xs.length) (by first|exact va0|fail) (Weak.refl _ _) ⟨0, by omega, by omega, rfl, ?_⟩ ?_
 ·refine ⟨?_, ?_, ?_, ?_, fun j hj => by omega⟩;all_goals simp (disch := try exact qa0) only [push_cast, simprocAttr, a0, a1, hil, hent]
 ·rintro mz s' H' ⟨k, hk, rfl, rfl, b0, b1, b7, b8, ik⟩;rcases l'i k xs.length with hlt|hge
  ·obtain rfl := hz.resolve_left (by intro h; rw [h] at hlt; simp at hlt);have e1 := xc0 xs k hlt;have hhit := fun h => zdm9 (p := p) hlt h ik;have hsn := kaf9 (P := fun j => p (xs.getD j 0) = false) (k := k) ik;generalize xs.getD k 0 = x at *;have hpx := hp x;cases hq : p x with
   | true =>
    rw [hq] at hpx;rw [hhit hq];repeat' (first|refine nv ?_|(with_reducible first|refine gG ?_ ?_|refine ⟨fun h => ?_, fun h => ?_⟩ <;> try omega|refine andG ?_)|refine cl_ hpx ?_|simp (disch := try exact qa0) only [push_cast, simprocAttr, b0, b1, b7, b8, e1, hil, hent])
   | false =>
    rw [hq] at hpx;have hsn2 := hsn hq;repeat' (first|refine nv ?_|(with_reducible first|refine gG ?_ ?_|refine ⟨fun h => ?_, fun h => ?_⟩ <;> try omega|refine andG ?_)|refine cl_ hpx ?_|simp (disch := try exact qa0) only [push_cast, simprocAttr, b0, b1, b7, b8, e1, hil, hent])
    refine za0 (xs.length - (k + 1)) (by omega) (by first|exact va0|fail) ⟨k + 1, by omega, rfl, rfl, ?_, ?_, ?_, ?_, hsn2⟩;all_goals simp (disch := try exact qa0) only [push_cast, simprocAttr, b0, b1, b7, b8, e1, hil, hent]
  ·obtain rfl : k = xs.length := by omega
   rw [xcJ9 ik];repeat' (first|refine nv ?_|(with_reducible first|refine gG ?_ ?_|refine ⟨fun h => ?_, fun h => ?_⟩ <;> try omega|refine andG ?_)|simp (disch := try exact qa0) only [push_cast, simprocAttr, b0, b1, b7, b8, hil, hent])
set_option maxRecDepth 100000 in
theorem kcm9 (p : Int → Bool) (g : FuncId) (cap : List AV) (z : Nat) (xs : List Int) (c : Option Nat) (H : List Blk) (hent : ka0 Tryz.prog g = true) (hp : ∀ x, wd0 Tryz.prog G0 g (.int .i64 x :: cap) H (.bool (p x)) H) (hz : xs = [] ∨ z = 1) (hx : xs.length ≤ 9223372036854775807) :
  wd0 Tryz.prog G0 68 [.sl z (ints xs) c, .fn g cap] H (.bool (xs.any p)) H := by
 have h1 := kbK9 p g cap z xs c H hent hp hz hx;have h2 := xdm9 p xs;generalize idxM p xs = d at *;generalize ints xs = IX at *;rw [← h2];refine zJ0 9 [.tmp 4] Tryz.func68 rfl rfl rfl (by simp) ?_;intro s ⟨a0, a1, hz⟩;simp only [l'm, Nat.reduceAdd] at a1;clear hz;repeat' (first|refine nv ?_|(with_reducible first|refine gG ?_ ?_|refine ⟨fun h => ?_, fun h => ?_⟩ <;> try omega|refine andG ?_)|refine cl_ h1 ?_|simp (disch := try exact qa0) only [push_cast, simprocAttr, a0, a1, hent])
def kG0 (sym : Int) (w : List Int) : Int := if 16 < sym ∨ 256 < w.length then 3 else if sym < 1 ∨ w.any (badW sym) = true then 1 else 0
set_option maxRecDepth 100000 in
theorem wcJ9 (z : Nat) (w : List Int) (c : Option Nat) (sym : Int) (hz : w = [] ∨ z = 1) (hw : w.length ≤ 9223372036854775807) : PC Tryz.prog G0 46 [.sl z (ints w) c, .int .i64 sym] (.int .i64 (kG0 sym w)) := by
 have hil := xa0 w;have hcf := kcm9 (badW sym) 69 [.ptr 0 0 0 1] z w c [.row 1 3 [[.int .i64 sym]]] en69 (fun x => zdQ9 x sym 0 _ rfl) hz hw;unfold kG0;generalize ints w = IX at *;generalize w.any (badW sym) = an at *;by_cases h1 : 16 < sym
 ·rw [if_pos (.inl h1)];refine qc0 0 19 [.tmp 4] Tryz.func46 rfl rfl rfl (by simp) ?_;intro s ⟨a0, a1, hz⟩;simp only [l'm, Nat.reduceAdd] at a1;clear hz;repeat' (first|refine nv ?_|(with_reducible first|refine gG ?_ ?_|refine ⟨fun h => ?_, fun h => ?_⟩ <;> try omega|refine andG ?_)|simp (disch := try exact qa0) only [push_cast, simprocAttr, a0, a1, hil, h1])
 ·by_cases h2 : 256 < w.length
  ·rw [if_pos (.inr h2)];have h2' : (256 : Int) < w.length := by omega
   refine qc0 0 19 [.tmp 4] Tryz.func46 rfl rfl rfl (by simp) ?_;intro s ⟨a0, a1, hz⟩;simp only [l'm, Nat.reduceAdd] at a1;clear hz;repeat' (first|refine nv ?_|(with_reducible first|refine gG ?_ ?_|refine ⟨fun h => ?_, fun h => ?_⟩ <;> try omega|refine andG ?_)|simp (disch := try exact qa0) only [push_cast, simprocAttr, a0, a1, hil, h1, h2'])
  ·rw [if_neg (by omega)];have h2' : ¬ (256 : Int) < w.length := by omega
   by_cases h3 : sym < 1
   ·rw [if_pos (.inl h3)];refine qc0 0 19 [.tmp 4] Tryz.func46 rfl rfl rfl (by simp) ?_;intro s ⟨a0, a1, hz⟩;simp only [l'm, Nat.reduceAdd] at a1;clear hz;repeat' (first|refine nv ?_|(with_reducible first|refine gG ?_ ?_|refine ⟨fun h => ?_, fun h => ?_⟩ <;> try omega|refine andG ?_)|(refine ⟨AV.bool true, ?_⟩; refine wC0 ?_)|simp (disch := try exact qa0) only [push_cast, simprocAttr, a0, a1, hil, h1, h2', h3])
   ·cases an with
    | true =>
     rw [if_pos (.inr rfl)];refine qc0 0 19 [.tmp 4] Tryz.func46 rfl rfl rfl (by simp) ?_;intro s ⟨a0, a1, hz⟩;simp only [l'm, Nat.reduceAdd] at a1;clear hz;repeat' (first|refine nv ?_|(with_reducible first|refine gG ?_ ?_|refine ⟨fun h => ?_, fun h => ?_⟩ <;> try omega|refine andG ?_)|refine cl_ hcf ?_|simp (disch := try exact qa0) only [push_cast, simprocAttr, a0, a1, hil, h1, h2', h3])
    | false =>
     rw [if_neg (by simp; omega)];refine qc0 0 19 [.tmp 4] Tryz.func46 rfl rfl rfl (by simp) ?_;intro s ⟨a0, a1, hz⟩;simp only [l'm, Nat.reduceAdd] at a1;clear hz;repeat' (first|refine nv ?_|(with_reducible first|refine gG ?_ ?_|refine ⟨fun h => ?_, fun h => ?_⟩ <;> try omega|refine andG ?_)|refine cl_ hcf ?_|simp (disch := try exact qa0) only [push_cast, simprocAttr, a0, a1, hil, h1, h2', h3])
end Go.Proofs
