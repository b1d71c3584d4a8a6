import Derived.Test.YtlpjemobbjijdaaGreatDoorS5
namespace Go.Proofs
open Go Go.V
set_option linter.unusedVariables false
set_option linter.unusedSimpArgs false
set_option maxHeartbeats 0
set_option maxRecDepth 100000
section
variable {ts : List Tk} {c : Option Nat} {P0 P1 P2 P3 P4 : Blk} {x0 x1 x2 x3 x4 x5 x6 : AV}
theorem xbk9 (w : Bs) (most i k : Nat) (e : Int) (hm : kj0 ts w most i = .no k e) (hi : i ≤ ts.length) (hmo : most ≤ 1000) (hl : ts.length ≤ 1000000) (hB : ∀ (n : Nat) (j : Int), [P0, P1, P2, P3, P4, rdB ts c j x0 x1 x2 x3 x4 x5 x6].all (Blk.below n) = true) :
  APan Tryz.prog G0 105 [.ptr 5 0 0 1, .str w, .int .i64 most] [P0, P1, P2, P3, P4, rdB ts c i x0 x1 x2 x3 x4 x5 x6] (fltV k e) [P0, P1, P2, P3, P4, rdB ts c (jnR ts k) x0 x1 x2 x3 x4 x5 x6] := by
 unfold kj0 at hm
 cases h1 : zd0 ts w i with
 | no a b =>
  rw [h1] at hm
  injection hm with q1 q2
  subst q1 q2
  have hn := vG0 (H := [P0, P1, P2, P3, P4, rdB ts c i x0 x1 x2 x3 x4 x5 x6]) (b := 5) w i a b h1 hi rfl hl (hB 6)
  simp only [List.set_cons_succ, List.set_cons_zero] at hn
  refine zi0 59 Tryz.func105 rfl rfl (by simp) ?_
  intro s ⟨a0, a1, a2, hz⟩
  simp only [Nat.zero_add, Nat.reduceAdd] at a1 a2
  clear hz
  repeat' (first|(first|(with_reducible refine kb0 (p := [0, 1]) ?_)|refine nav ?_|(refine g0_ ?_; first|refine goD ?_))|with_reducible refine gG ?_ ?_|((with_reducible refine And.intro (fun h => ?_) (fun h => ?_)) <;> try (exfalso; omega))|with_reducible refine andG ?_|simp (disch := try exact discB) only [push_cast, simprocAttr, a0, a1, a2])
  refine Halt.mk ?_
  refine vg0 (p := [0, 1]) 2 (by rfl) (by rfl) (by rfl) (by rfl) ?_
  repeat' (first|refine nav ?_|(refine g0_ ?_; refine goD ?_)|with_reducible refine gG ?_ ?_|((with_reducible refine And.intro (fun h => ?_) (fun h => ?_)) <;> try (exfalso; omega))|with_reducible refine andG ?_|simp (disch := try exact discB) only [push_cast, simprocAttr, a0, a1, a2])
  exact wd0 trivial rfl rfl rfl xaL9 rfl hn ⟨rfl, .inl rfl⟩
 | ok u =>
  rw [h1] at hm
  simp only [PE.bind] at hm
  have hit := qk0 h1
  have c1 := xn0 (H := [P0, P1, P2, P3, P4, rdB ts c i x0 x1 x2 x3 x4 x5 x6]) (b := 5) w i h1 rfl hl (hB 6)
  simp only [List.set_cons_succ, List.set_cons_zero] at c1
  refine zi0 59 Tryz.func105 rfl rfl (by simp) ?_
  intro s ⟨a0, a1, a2, hz⟩
  simp only [Nat.zero_add, Nat.reduceAdd] at a1 a2
  clear hz
  repeat' (first|refine nav ?_|(refine g0_ ?_; refine goD ?_)|with_reducible refine gG ?_ ?_|((with_reducible refine And.intro (fun h => ?_) (fun h => ?_)) <;> try (exfalso; omega))|with_reducible refine andG ?_|(first|(refine ⟨_, _, c1, ?_⟩)|(refine ⟨_, c1, ?_⟩)|(refine ⟨_, fun _ => c1, ?_⟩))|simp (disch := try exact discB) only [push_cast, simprocAttr, a0, a1, a2])
  refine go_loop rfl (fun mz s' H' => ∃ (f : Nat) (o : List Bs) (i1 : Nat), wK0 ts most f o i1 = .no k e ∧ ts.length < f + i1 ∧ i1 ≤ ts.length ∧ o.length ≤ most ∧ mz = f ∧ H' = [P0, P1, P2, P3, P4, rdB ts c i1 x0 x1 x2 x3 x4 x5 x6, .row 1 9 (strs o)] ∧ s' 0 = .ptr 5 0 0 1 ∧ s' 2 = .int .i64 most ∧ s' 7 = .own 6 o.length o.length none) (m := ts.length + 1) (by first|exact xb0|fail) (kB0 (t := 7) (sz := 1) (ty := 9) rfl) ⟨ts.length + 1, [], i + 1, hm, by omega, by omega, by simp, rfl, by simp [kaL9], ?_⟩ ?_
  ·simp (disch := try exact discB) only [push_cast, simprocAttr, a0, a1, a2]
  rintro mz s' H' ⟨f, o, i1, hg, hf, hi1, ho, rfl, rfl, b0, b2, b7⟩
  obtain ⟨f', rfl⟩ : ∃ f', mz = f' + 1 := ⟨mz - 1, by omega⟩
  have hi3 : ((i1 + 2 : Nat) : Int) = (i1 : Int) + 1 + 1 := by omega
  have hi4 : (i1 : Int) + 1 - 1 = i1 := by omega
  have hi5 : (i1 : Int) + 1 + 1 - 1 = ((i1 + 1 : Nat) : Int) := by omega
  have hlo := xa0 o
  have hid1 : ∀ p, idsE p (strs o) = true := fun p => za0 _ _
  have e0 : (strs o).take o.length = strs o := List.take_of_length_le (by omega)
  have e1 : (strs o).drop (o.length + 1) = [] := List.drop_eq_nil_of_le (by omega)
  have hf1 := fun H e => wG0 H (.ptr 5 0 0 1) i1 e
  have hf2 := fun H e => wG0 H (.ptr 5 0 0 1) (i1 + 1) e
  have hBs := fun j => kq0 (z := 1) (t := 9) o (hB 7 j)
  rcases qbt9 hg with hn|⟨s, hn, hcase⟩
  ·have c2 := qbk9 (H := [P0, P1, P2, P3, P4, rdB ts c i1 x0 x1 x2 x3 x4 x5 x6, .row 1 9 (strs o)]) (b := 5) i1 k e hn hi1 rfl hl hBs
   simp only [List.set_cons_succ, List.set_cons_zero] at c2
   generalize strs o = S0 at *
   repeat' (first|(first|(with_reducible refine kb0 (p := [0, 0, 0, 0, 1, 1, 1]) ?_)|refine nav ?_|(refine g0_ ?_; first|refine goD ?_))|with_reducible refine gG ?_ ?_|((with_reducible refine And.intro (fun h => ?_) (fun h => ?_)) <;> try (exfalso; omega))|with_reducible refine andG ?_|simp (disch := try exact discB) only [push_cast, simprocAttr, b0, b2, b7])
   refine Halt.mk ?_
   refine vg0 (p := [0, 0, 0, 0, 1, 1, 1]) 1 (by rfl) (by rfl) (by rfl) (by rfl) ?_
   repeat' (first|refine nav ?_|(refine g0_ ?_; refine goD ?_)|with_reducible refine gG ?_ ?_|((with_reducible refine And.intro (fun h => ?_) (fun h => ?_)) <;> try (exfalso; omega))|with_reducible refine andG ?_|simp (disch := try exact discB) only [push_cast, simprocAttr, b0, b2, b7])
   exact wd0 trivial rfl rfl rfl wcu9 rfl c2 ⟨rfl, .inr ⟨hB 6 _, rfl⟩⟩
  have c2 := zad9 (H := [P0, P1, P2, P3, P4, rdB ts c i1 x0 x1 x2 x3 x4 x5 x6, .row 1 9 (strs o)]) (b := 5) s i1 hn rfl hl hBs
  have c3 := vM0 6 o s [P0, P1, P2, P3, P4, rdB ts c ((i1 : Int) + 1) x0 x1 x2 x3 x4 x5 x6, .row 1 9 (strs o)] rfl (by omega)
  simp only [List.set_cons_succ, List.set_cons_zero] at c2
  have hnl := qx0 hn
  have hj1 : jnR ts i1 = (i1 : Int) + 1 := by unfold jnR; omega
  rcases hcase with ⟨hc, rfl, rfl⟩|⟨hc, hcase⟩
  ·rw [hc] at c3
   rw [hj1]
   generalize strs o = S0 at *
   unfold rdB rdC at *
   repeat' (first|(first|(with_reducible refine kb0 (p := [0, 1, 0, 0, 1, 0, 0, 0, 1, 1, 1]) ?_)|refine nav ?_|(refine g0_ ?_; first|refine goD ?_))|with_reducible refine gG ?_ ?_|((with_reducible refine And.intro (fun h => ?_) (fun h => ?_)) <;> try (exfalso; omega))|with_reducible refine andG ?_|(first|(refine ⟨_, _, c2, ?_⟩)|(refine ⟨_, c2, ?_⟩)|(refine ⟨_, fun _ => c2, ?_⟩)|(refine ⟨_, _, c3, ?_⟩)|(refine ⟨_, c3, ?_⟩)|(refine ⟨_, fun _ => c3, ?_⟩))|simp (disch := try exact discB) only [push_cast, simprocAttr, b0, b2, b7, hi4])
   refine Halt.mk ?_
   refine vg0 (p := [0, 1, 0, 0, 1, 0, 0, 0, 1, 1, 1]) 6 (by rfl) (by rfl) (by rfl) (by rfl) ?_
   repeat' (first|refine nav ?_|(refine g0_ ?_; refine goD ?_)|with_reducible refine gG ?_ ?_|((with_reducible refine And.intro (fun h => ?_) (fun h => ?_)) <;> try (exfalso; omega))|with_reducible refine andG ?_|(first|(refine ⟨_, _, c2, ?_⟩)|(refine ⟨_, c2, ?_⟩)|(refine ⟨_, fun _ => c2, ?_⟩)|(refine ⟨_, _, c3, ?_⟩)|(refine ⟨_, c3, ?_⟩)|(refine ⟨_, fun _ => c3, ?_⟩))|simp (disch := try exact discB) only [push_cast, simprocAttr, b0, b2, b7, hi4])
   exact wd0 trivial rfl rfl rfl was9 rfl (hf1 _ _) ⟨rfl, .inr ⟨hB 6 _, rfl⟩⟩
  rw [hc] at c3
  rcases hcase with ⟨hq, rfl, rfl⟩|⟨hq, hcase⟩
  ·rw [hj1]
   subst hq
   generalize strs o = S0 at *
   unfold rdB rdC at *
   repeat' (first|(first|(with_reducible refine kb0 (p := [0, 1, 1, 1, 0, 0, 1, 0, 0, 0, 1, 1, 1]) ?_)|refine nav ?_|(refine g0_ ?_; first|refine goD ?_))|with_reducible refine gG ?_ ?_|((with_reducible refine And.intro (fun h => ?_) (fun h => ?_)) <;> try (exfalso; omega))|with_reducible refine andG ?_|(first|(refine ⟨_, _, c2, ?_⟩)|(refine ⟨_, c2, ?_⟩)|(refine ⟨_, fun _ => c2, ?_⟩)|(refine ⟨_, _, c3, ?_⟩)|(refine ⟨_, c3, ?_⟩)|(refine ⟨_, fun _ => c3, ?_⟩))|simp (disch := try exact discB) only [push_cast, simprocAttr, b0, b2, b7, hi4])
   refine Halt.mk ?_
   refine vg0 (p := [0, 1, 1, 1, 0, 0, 1, 0, 0, 0, 1, 1, 1]) 6 (by rfl) (by rfl) (by rfl) (by rfl) ?_
   repeat' (first|refine nav ?_|(refine g0_ ?_; refine goD ?_)|with_reducible refine gG ?_ ?_|((with_reducible refine And.intro (fun h => ?_) (fun h => ?_)) <;> try (exfalso; omega))|with_reducible refine andG ?_|(first|(refine ⟨_, _, c2, ?_⟩)|(refine ⟨_, c2, ?_⟩)|(refine ⟨_, fun _ => c2, ?_⟩)|(refine ⟨_, _, c3, ?_⟩)|(refine ⟨_, c3, ?_⟩)|(refine ⟨_, fun _ => c3, ?_⟩))|simp (disch := try exact discB) only [push_cast, simprocAttr, b0, b2, b7, hi4])
   exact wd0 trivial rfl rfl rfl was9 rfl (hf1 _ _) ⟨rfl, .inr ⟨hB 6 _, rfl⟩⟩
  have hq : ¬ (o.length : Int) = most := by omega
  have hsn := wau9 o s
  have hlo2 : (strs (o ++ [s])).length = o.length + 1 := by rw [xa0]; simp
  have hid2 : ∀ p, idsE p (strs (o ++ [s])) = true := fun p => za0 _ _
  have hlos : (o ++ [s]).length = o.length + 1 := by simp
  rcases hcase with ⟨hq4, hk, rfl⟩|⟨hlt, h59, hcase⟩
  ·rw [hk]
   have c4 := qaM9 (H := [P0, P1, P2, P3, P4, rdB ts c ((i1 : Int) + 1) x0 x1 x2 x3 x4 x5 x6, .row 1 9 (strs (o ++ [s]))]) (b := 5) (ts := ts) (c := c) (x0 := x0) (x1 := x1) (x2 := x2) (x3 := x3) (x4 := x4) (x5 := x5) (x6 := x6) (by rw [← hq4, show ((i1 + 1 : Nat) : Int) = (i1 : Int) + 1 by omega]; rfl) hl (kq0 (o ++ [s]) (hB 7 _))
   rw [show ts.length - 1 = i1 by omega] at c4
   rw [hj1]
   generalize strs (o ++ [s]) = S1 at *
   generalize strs o = S0 at *
   repeat' (first|(first|(with_reducible refine kb0 (p := [0, 1, 1, 1, 0, 0, 0, 1, 1, 1]) ?_)|refine nav ?_|(refine g0_ ?_; first|refine goD ?_))|with_reducible refine gG ?_ ?_|((with_reducible refine And.intro (fun h => ?_) (fun h => ?_)) <;> try (exfalso; omega))|with_reducible refine andG ?_|(first|(refine ⟨_, _, c2, ?_⟩)|(refine ⟨_, c2, ?_⟩)|(refine ⟨_, fun _ => c2, ?_⟩)|(refine ⟨_, _, c3, ?_⟩)|(refine ⟨_, c3, ?_⟩)|(refine ⟨_, fun _ => c3, ?_⟩))|simp (disch := try exact discB) only [push_cast, simprocAttr, b0, b2, b7, hsn, hq, hlo, hlo2, e0, e1])
   refine Halt.mk ?_
   refine vg0 (p := [0, 1, 1, 1, 0, 0, 0, 1, 1, 1]) 1 (by rfl) (by rfl) (by rfl) (by rfl) ?_
   repeat' (first|refine nav ?_|(refine g0_ ?_; refine goD ?_)|with_reducible refine gG ?_ ?_|((with_reducible refine And.intro (fun h => ?_) (fun h => ?_)) <;> try (exfalso; omega))|with_reducible refine andG ?_|(first|(refine ⟨_, _, c2, ?_⟩)|(refine ⟨_, c2, ?_⟩)|(refine ⟨_, fun _ => c2, ?_⟩)|(refine ⟨_, _, c3, ?_⟩)|(refine ⟨_, c3, ?_⟩)|(refine ⟨_, fun _ => c3, ?_⟩))|simp (disch := try exact discB) only [push_cast, simprocAttr, b0, b2, b7, hsn, hq, hlo, hlo2, e0, e1])
   exact wd0 (by first|exact xb0|fail) rfl rfl rfl kcu9 rfl c4 ⟨rfl, .inr ⟨hB 6 _, rfl⟩⟩
  have c4 := qad9 (H := [P0, P1, P2, P3, P4, rdB ts c ((i1 : Int) + 1) x0 x1 x2 x3 x4 x5 x6, .row 1 9 (strs (o ++ [s]))]) (b := 5) (ts := ts) (c := c) (x0 := x0) (x1 := x1) (x2 := x2) (x3 := x3) (x4 := x4) (x5 := x5) (x6 := x6) (i1 + 1) (by rw [show ((i1 + 1 : Nat) : Int) = (i1 : Int) + 1 by omega]; rfl) hlt hl (kq0 (o ++ [s]) (hB 7 _))
  rw [show ((i1 + 1 : Nat) : Int) = (i1 : Int) + 1 by omega] at c4
  simp only [List.set_cons_succ, List.set_cons_zero] at c4
  have hbb := hB 7 ((i1 : Int) + 1 + 1)
  have htk : ∀ t : Tk, ([P0, P1, P2, P3, P4, rdB ts c ((i1 : Int) + 1 + 1) x0 x1 x2 x3 x4 x5 x6, .row 1 9 (strs (o ++ [s])), .row 4 115 [tkA t]].take 7).all (Blk.below 7) = true := fun t => kq0 (o ++ [s]) hbb
  generalize ts.getD (i1 + 1) tk0 = t at *
  have htk := htk t
  obtain ⟨tk, tt, tl, tc⟩ := t
  simp only at h59 hcase
  simp only [tkA] at c4 htk
  rcases hcase with ⟨h44, hr⟩|⟨h44, rfl, rfl⟩
  ·subst h44
   have h4459 : ¬ ([44] : Bs) = [59] := by decide
   have hlk : f' < f' + 1 := by omega
   generalize hS1 : strs (o ++ [s]) = S1 at *
   generalize strs o = S0 at *
   repeat' (first|refine nav ?_|(refine g0_ ?_; refine goD ?_)|with_reducible refine gG ?_ ?_|((with_reducible refine And.intro (fun h => ?_) (fun h => ?_)) <;> try (exfalso; omega))|with_reducible refine andG ?_|(first|(refine ⟨_, _, c2, ?_⟩)|(refine ⟨_, c2, ?_⟩)|(refine ⟨_, fun _ => c2, ?_⟩)|(refine ⟨_, _, c3, ?_⟩)|(refine ⟨_, c3, ?_⟩)|(refine ⟨_, fun _ => c3, ?_⟩)|(refine ⟨_, _, c4, ?_⟩)|(refine ⟨_, c4, ?_⟩)|(refine ⟨_, fun _ => c4, ?_⟩))|simp (disch := try exact discB) only [push_cast, simprocAttr, b0, b2, b7, hsn, hq, hlo, hlo2, e0, e1, h4459])
   refine wg0 f' 7 hlk (by first|exact xb0|fail) (by omega) (by simp) htk ⟨f', o ++ [s], i1 + 2, hr, by omega, by omega, by omega, rfl, by rw [hi3, hS1]; rfl, ?_⟩
   simp (disch := try exact discB) only [push_cast, simprocAttr, b0, b2, b7, hsn, hq, hlo, hlo2, e0, e1, h4459]
   simp [ko0, AV.ids]
  ·rw [show jnR ts (i1 + 1) = (i1 : Int) + 1 + 1 by unfold jnR; omega]
   generalize strs (o ++ [s]) = S1 at *
   generalize strs o = S0 at *
   unfold rdB rdC at *
   repeat' (first|(first|(with_reducible refine kb0 (p := [0, 1, 1, 1, 1, 1, 1, 0, 0, 0, 1, 1, 1]) ?_)|refine nav ?_|(refine g0_ ?_; first|refine goD ?_))|with_reducible refine gG ?_ ?_|((with_reducible refine And.intro (fun h => ?_) (fun h => ?_)) <;> try (exfalso; omega))|with_reducible refine andG ?_|(first|(refine ⟨_, _, c2, ?_⟩)|(refine ⟨_, c2, ?_⟩)|(refine ⟨_, fun _ => c2, ?_⟩)|(refine ⟨_, _, c3, ?_⟩)|(refine ⟨_, c3, ?_⟩)|(refine ⟨_, fun _ => c3, ?_⟩)|(refine ⟨_, _, c4, ?_⟩)|(refine ⟨_, c4, ?_⟩)|(refine ⟨_, fun _ => c4, ?_⟩))|simp (disch := try exact discB) only [push_cast, simprocAttr, b0, b2, b7, hsn, hq, hlo, hlo2, e0, e1, h59, h44, hi5])
   refine Halt.mk ?_
   refine vg0 (p := [0, 1, 1, 1, 1, 1, 1, 0, 0, 0, 1, 1, 1]) 6 (by rfl) (by rfl) (by rfl) (by rfl) ?_
   repeat' (first|refine nav ?_|(refine g0_ ?_; refine goD ?_)|with_reducible refine gG ?_ ?_|((with_reducible refine And.intro (fun h => ?_) (fun h => ?_)) <;> try (exfalso; omega))|with_reducible refine andG ?_|(first|(refine ⟨_, _, c2, ?_⟩)|(refine ⟨_, c2, ?_⟩)|(refine ⟨_, fun _ => c2, ?_⟩)|(refine ⟨_, _, c3, ?_⟩)|(refine ⟨_, c3, ?_⟩)|(refine ⟨_, fun _ => c3, ?_⟩)|(refine ⟨_, _, c4, ?_⟩)|(refine ⟨_, c4, ?_⟩)|(refine ⟨_, fun _ => c4, ?_⟩))|simp (disch := try exact discB) only [push_cast, simprocAttr, b0, b2, b7, hsn, hq, hlo, hlo2, e0, e1, h59, h44, hi5])
   exact wd0 trivial rfl rfl rfl was9 rfl (hf2 _ _) ⟨rfl, .inr ⟨hB 6 _, rfl⟩⟩
end
end Go.Proofs
namespace Go.Proofs
open Go Go.V
set_option linter.unusedVariables false
set_option linter.unusedSimpArgs false
set_option maxHeartbeats 0
set_option maxRecDepth 100000
theorem kdl9 (H : List Blk) (n : Nat) (hn : n ≤ 1000000) : ka0 Tryz.prog G0 131 [.int .u64 1, .int .u64 n] H (.tup [.int .u64 0, .int .u64 n]) H := by
 refine kf0 fun S vals hok hG ha => ?_
 obtain ⟨u, us, rfl, hu, h2⟩ := ha
 obtain ⟨v, vs, rfl, hv, h3⟩ := h2
 simp only [RelL] at h3
 subst h3
 simp only [Rel] at hu hv
 subst hu hv
 have h := Tryz.bits_Mul 1 n (by omega) (by omega) S.w
 rw [show 1 * n / 18446744073709551616 = 0 by omega, show 1 * n % 18446744073709551616 = n by omega] at h
 refine h.mono fun e w' ⟨h1, h2⟩ => ?_
 exact ⟨_, h1, h2 ▸ Go.RowKit.Below.refl _ _, fun E _ _ => by simp [Rel, RelL]⟩
def rzA (e : Edg) (n k : Nat) : List (List AV) := List.replicate k (eA e) ++ List.replicate (n - k) [.int .i64 0, .int .i64 0]
theorem kcU9 (e : Edg) (n k : Nat) (h : k ≤ n) : (rzA e n k).length = n := by simp [rzA]; omega
theorem qcV9 (e : Edg) (n k : Nat) : ∀ p, idsE p (rzA e n k) = true := fun p => by
 rw [vr0]; intro x hx
 simp only [rzA, List.mem_append, List.mem_replicate] at hx
 rcases hx with ⟨_, rfl⟩|⟨_, rfl⟩ <;> simp [eA, idsL, AV.ids]
theorem zcV9 (e : Edg) (n : Nat) : rzA e n n = rowA (List.replicate n e) := by simp [rzA, rowA]
theorem zbt9 (e : Edg) (n k : Nat) (h : k ≤ n) : (rzA e n k).take k = List.replicate k (eA e) := by
 rw [rzA, List.take_left' (by simp)]
theorem vcx9 (e : Edg) (n k : Nat) (h : k ≤ n) : (rzA e n k).take k ++ (List.replicate k (eA e)).take (min k (n - k)) ++ (rzA e n k).drop (k + min k (n - k)) = rzA e n (k + min k (n - k)) := by
 have hm : min k (n - k) ≤ k := Nat.min_le_left ..
 have hm2 : min k (n - k) ≤ n - k := Nat.min_le_right ..
 generalize min k (n - k) = m at *
 rw [zbt9 e n k h, List.take_replicate, Nat.min_eq_left hm, List.append_assoc, rzA, List.drop_append, List.drop_eq_nil_of_le (by simp), List.length_replicate, List.nil_append, Nat.add_sub_cancel_left, List.drop_replicate, rzA, ← List.append_assoc, List.replicate_append_replicate, show n - k - m = n - (k + m) by omega]
theorem qdm9 (e : Edg) (n : Nat) (h1 : 1 ≤ n) (hn : n ≤ 100000) (H : List Blk) :
  ka0 Tryz.prog G0 106 [.sl 2 (rowA [e]) (some 1), .int .i64 n] H (.own H.length n n (some n)) (H ++ [.row 2 70 (rowA (List.replicate n e))]) := by
 have hm := fun H => kdl9 H n (by omega)
 have hw1 : IntKind.u64.wrap (n : Int) = n := by rw [IntKind.wrap_u64]; omega
 have hg : ∀ X : Blk, (H ++ [X])[H.length]? = some X := fun X => by rw [List.getElem?_append_right (Nat.le_refl _), Nat.sub_self]; rfl
 have hs : ∀ X Y : Blk, (H ++ [X]).set H.length Y = H ++ [Y] := fun X Y => by rw [List.set_append_right _ _ (Nat.le_refl _), Nat.sub_self]; rfl
 have hn0 : ¬ (n : Int) < 0 := by omega
 have hbig : ¬ (9223372036854775807 : Int) < n := by omega
 have hw2 : IntKind.u64.wrap 1 = 1 := rfl
 have hra : rowA [e] = [eA e] := rfl
 rw [hra, ← zcV9]
 refine vl0 48 [.tmp 4] Tryz.func106 rfl rfl rfl (by simp) ?_
 intro s ⟨a0, a1, hz⟩
 simp only [Nat.zero_add, Nat.reduceAdd] at a1
 clear hz
 repeat' (first|refine nav ?_|(refine g0_ ?_; refine goD ?_)|with_reducible refine gG ?_ ?_|((with_reducible refine And.intro (fun h => ?_) (fun h => ?_)) <;> try (exfalso; omega))|with_reducible refine andG ?_|(first|(refine ⟨_, _, hm _, ?_⟩)|(refine ⟨_, hm _, ?_⟩)|(refine ⟨_, fun _ => hm _, ?_⟩))|simp (disch := try exact discB) only [push_cast, simprocAttr, a0, a1, hw1, hg, hs, hn0, hbig, hw2])
 refine go_loop rfl (fun mz s' H' => ∃ k : Nat, 1 ≤ k ∧ k ≤ n ∧ mz = n - k ∧ H' = H ++ [.row 2 70 (rzA e n k)] ∧ s' 7 = .own H.length n n (some n) ∧ s' 8 = .int .i64 k) (m := n - 1) (by first|exact xb0|fail) (Weak.refl _ _) ⟨1, by omega, by omega, rfl, ?_, ?_⟩ ?_
 ·rw [show min 1 n = 1 by omega, List.drop_replicate]; rfl
 ·simp (disch := try exact discB) only [push_cast, simprocAttr, a0, a1, hw1, hg, hs, hn0, hbig, hw2]
  rw [show min 1 n = 1 by omega]; rfl
 rintro mz s' H' ⟨k, hk1, hk, rfl, rfl, b7, b8⟩
 have hl := kcU9 e n k hk
 have hid := qcV9 e n k
 have ht := zbt9 e n k hk
 rcases Nat.lt_or_ge k n with hlt|hge
 ·have hst := vcx9 e n k hk
  have hk0 : ¬ (k : Int) = 0 := by omega
  have hidr : ∀ p, idsE p (List.replicate k (eA e)) = true := fun p => by rw [← ht, vr0]; intro x hx; exact (vr0 _).1 (hid p) x (List.mem_of_mem_take hx)
  generalize hZ : rzA e n k = Z at *
  repeat' (first|refine nav ?_|(refine g0_ ?_; refine goD ?_)|with_reducible refine gG ?_ ?_|((with_reducible refine And.intro (fun h => ?_) (fun h => ?_)) <;> try (exfalso; omega))|with_reducible refine andG ?_|simp (disch := try exact discB) only [push_cast, simprocAttr, b7, b8, hg, hs, hl, ht, hk0, List.length_replicate, Int.toNat_natCast])
  rw [ht] at hst
  refine wa0 (n - (k + min k (n - k))) (by omega) (by first|exact xb0|fail) ⟨k + min k (n - k), by omega, by omega, rfl, by rw [hst], ?_⟩
  simp (disch := try exact discB) only [push_cast, simprocAttr, b7, b8, hg, hs, hl, ht, hk0, List.length_replicate, Int.toNat_natCast]
 ·obtain rfl : k = n := by omega
  generalize hZ : rzA e k k = Z at *
  repeat' (first|refine nav ?_|(refine g0_ ?_; refine goD ?_)|with_reducible refine gG ?_ ?_|((with_reducible refine And.intro (fun h => ?_) (fun h => ?_)) <;> try (exfalso; omega))|with_reducible refine andG ?_|simp (disch := try exact discB) only [push_cast, simprocAttr, b7, b8, hg, hs, hl])
end Go.Proofs
