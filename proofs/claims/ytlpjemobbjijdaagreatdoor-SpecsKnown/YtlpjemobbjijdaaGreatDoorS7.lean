import Derived.Test.YtlpjemobbjijdaaGreatDoorS4
import Derived.Test.YtlpjemobbjijdaaGreatDoorV69
import Derived.Test.YtlpjemobbjijdaaGreatDoorV51
namespace Go.Proofs
open Go Go.V
set_option linter.unusedVariables false
set_option linter.unusedSimpArgs false
set_option maxHeartbeats 0
set_option maxRecDepth 100000
theorem xS0 (b : Nat) (o : List Bs) (s0 : Bs) (H : List Blk) (hb : H[b]? = some (.row 1 9 (strs o))) (hl : o.length ≤ 1000000) : qb0 Tryz.prog G0 41 [.own b o.length o.length none, .str s0] H (.bool (o.contains s0)) H := by
 have hl := za0 o;refine vcf9 1 ?_ ?_ (kO0 1 o none s0 (.inr rfl) (by omega)) rfl
 ·rw [List.all_cons, wdb9 hb hl.symm hl.symm (xa0 _ _)]; rfl
 ·rw [List.map_cons, wbg9 hb hl.symm hl.symm]; rfl
theorem kL0 (o : List Bs) (s : Bs) : strs o ++ [[.str s]] = strs (o ++ [s]) := by simp [strs]
theorem xt0 {B : List Blk} {n : Nat} {z : Nat} {t : TypeId} (o : List Bs) (h : B.all (Blk.below n) = true) : (B ++ [Blk.row z t (strs o)]).all (Blk.below n) = true := by
 rw [List.all_append, h]; simp [Blk.below]
theorem var9 {l : List Tk} {most f i : Nat} {o : List Bs} {r : List Bs × Nat} (h : kG0 l most f o i = .ok r) : ∃ f' s, f = f' + 1 ∧ wh0 l i = .ok s ∧ o.contains s = false ∧ o.length ≠ most ∧ i + 1 < l.length ∧ (((l.getD (i + 1) tk0).t = [59] ∧ r = (o ++ [s], i + 2)) ∨ ((l.getD (i + 1) tk0).t = [44] ∧ kG0 l most f' (o ++ [s]) (i + 2) = .ok r)) := by
 cases f with
 | zero => cases h
 | succ f =>
  rw [kG0] at h;cases h1 : wh0 l i with
  | no a b => rw [h1] at h; cases h
  | ok s =>
   rw [h1] at h;simp only [PE.bind] at h;split at h
   ·cases h
   split at h
   ·cases h
   rename_i q1 q2;by_cases q3 : i + 1 < l.length
   ·rw [xp0, if_pos q3] at h;simp only at h;refine ⟨f, s, rfl, rfl, by simpa using q1, q2, q3, ?_⟩;split at h
    ·injection h with h; exact .inl ⟨by assumption, h.symm⟩
    split at h
    ·exact .inr ⟨by assumption, h⟩
    ·cases h
   ·rw [xp0, if_neg q3] at h;cases h
theorem qbH9 {l : List Tk} {most f i k : Nat} {e : Int} {o : List Bs} (h : kG0 l most (f + 1) o i = .no k e) : wh0 l i = .no k e ∨ ∃ s, wh0 l i = .ok s ∧ ((o.contains s = true ∧ k = i ∧ e = 8) ∨ (o.contains s = false ∧ ((o.length = most ∧ k = i ∧ e = 3) ∨ (o.length ≠ most ∧ ((i + 1 = l.length ∧ k = i ∧ e = 4) ∨ (i + 1 < l.length ∧ (l.getD (i + 1) tk0).t ≠ [59] ∧ (((l.getD (i + 1) tk0).t = [44] ∧ kG0 l most f (o ++ [s]) (i + 2) = .no k e) ∨ ((l.getD (i + 1) tk0).t ≠ [44] ∧ k = i + 1 ∧ e = 4)))))))) := by
 rw [kG0] at h;cases h1 : wh0 l i with
 | no a b => rw [h1] at h; injection h with q1 q2; subst q1 q2; exact .inl rfl
 | ok s =>
  have hi := wA0 h1;rw [h1] at h;simp only [PE.bind] at h;refine .inr ⟨s, rfl, ?_⟩;split at h
  ·injection h with q1 q2; exact .inl ⟨by assumption, q1.symm, q2.symm⟩
  rename_i q;refine .inr ⟨by simpa using q, ?_⟩;split at h
  ·injection h with q1 q2; exact .inl ⟨by assumption, q1.symm, q2.symm⟩
  rename_i q;refine .inr ⟨q, ?_⟩;by_cases q : i + 1 < l.length
  ·rw [xp0, if_pos q] at h;simp only at h;refine .inr ⟨q, ?_⟩;split at h
   ·cases h
   rename_i q;refine ⟨q, ?_⟩;split at h
   ·exact .inl ⟨by assumption, h⟩
   ·rename_i q;injection h with q1 q2; exact .inr ⟨q, q1.symm, q2.symm⟩
  ·rw [xp0, if_neg q] at h;injection h with q1 q2
   exact .inl ⟨by omega, by omega, q2.symm⟩
section
variable {ts : List Tk} {c : Option Nat} {P0 P1 P2 P3 P4 : Blk} {x0 x1 x2 x3 x4 x5 x6 : AV}
theorem kaB9 (w : Bs) (most i i' : Nat) (o' : List Bs) (hm : ql0 ts w most i = .ok (o', i')) (hmo : most ≤ 1000) (hl : ts.length ≤ 1000000) (hrow : ∀ j : Int, ∀ b ∈ [P0, P1, P2, P3, P4, rdB ts c j x0 x1 x2 x3 x4 x5 x6], ∃ z t es, b = .row z t es) (hB : ∀ (n : Nat) (j : Int), [P0, P1, P2, P3, P4, rdB ts c j x0 x1 x2 x3 x4 x5 x6].all (Blk.below n) = true) :
  qb0 Tryz.prog G0 105 [.ptr 5 0 0 1, .str w, .int .i64 most] [P0, P1, P2, P3, P4, rdB ts c i x0 x1 x2 x3 x4 x5 x6] (.sl 1 (strs o') (some o'.length)) [P0, P1, P2, P3, P4, rdB ts c i' x0 x1 x2 x3 x4 x5 x6] := by
 unfold ql0 at hm;cases h1 : xd0 ts w i with
 | no a b => rw [h1] at hm; cases hm
 | ok u =>
  rw [h1] at hm;simp only [PE.bind] at hm;have hit := vm0 h1;have c1 := zq0 (H := [P0, P1, P2, P3, P4, rdB ts c i x0 x1 x2 x3 x4 x5 x6]) (b := 5) w i h1 rfl hl (hB 6);simp only [List.set_cons_succ, List.set_cons_zero] at c1;have hsh := xdq9 (P := Tryz.prog) (G := G0) (f := 105) (args := [.ptr 5 0 0 1, .str w, .int .i64 most]) (H := [P0, P1, P2, P3, P4, rdB ts c i x0 x1 x2 x3 x4 x5 x6]) (H' := [P0, P1, P2, P3, P4, rdB ts c i' x0 x1 x2 x3 x4 x5 x6]) (sz := 1) (n := o'.length) (m := o'.length) (t := 9) (es := strs o') (c := some o'.length) (K := [.row 4 115 [tkA (ts.getD (i' - 1) tk0)]]) ?_ rfl (hrow _) (hB _ _) (za0 _).symm (xa0 _ _)
  ·rw [l'y (by rw [za0]; exact l'd _)] at hsh;exact hsh
  show qb0 Tryz.prog G0 105 [.ptr 5 0 0 1, .str w, .int .i64 most] [P0, P1, P2, P3, P4, rdB ts c i x0 x1 x2 x3 x4 x5 x6] (.own 6 o'.length o'.length (some o'.length)) [P0, P1, P2, P3, P4, rdB ts c i' x0 x1 x2 x3 x4 x5 x6, .row 1 9 (strs o'), .row 4 115 [tkA (ts.getD (i' - 1) tk0)]];refine zp0 59 [.tmp 6] Tryz.func105 rfl rfl rfl (by simp) ?_;intro s ⟨a0, a1, a2, hz⟩;simp only [l'g, Nat.reduceAdd] at a1 a2;clear hz;repeat' (first|refine nv ?_|(with_reducible first|refine gG ?_ ?_|refine ⟨fun h => ?_, fun h => ?_⟩ <;> try omega|refine andG ?_)|refine cl c1 ?_|simp (disch := try exact discB) only [push_cast, simprocAttr, a0, a1, a2])
  refine go_loop rfl (fun mz s' H' => ∃ (f : Nat) (o : List Bs) (i1 : Nat), kG0 ts most f o i1 = .ok (o', i') ∧ ts.length < f + i1 ∧ i1 ≤ ts.length ∧ o.length ≤ most ∧ mz = f ∧ H' = [P0, P1, P2, P3, P4, rdB ts c i1 x0 x1 x2 x3 x4 x5 x6, .row 1 9 (strs o)] ∧ s' 0 = .ptr 5 0 0 1 ∧ s' 2 = .int .i64 most ∧ s' 7 = .own 6 o.length o.length none) (m := ts.length + 1) (by first|exact va0|fail) (qr0 (t := 7) (sz := 1) (ty := 9) rfl) ⟨ts.length + 1, [], i + 1, hm, by omega, by omega, by simp, rfl, by simp [kf0], ?_⟩ ?_
  ·simp (disch := try exact discB) only [push_cast, simprocAttr, a0, a1, a2]
  rintro mz s' H' ⟨f, o, i1, hg, hf, hi1, ho, rfl, rfl, b0, b2, b7⟩;obtain ⟨f', s, rfl, hn, hc, hlen, hlt, hcase⟩ := var9 hg;have c2 := zak9 (H := [P0, P1, P2, P3, P4, rdB ts c i1 x0 x1 x2 x3 x4 x5 x6, .row 1 9 (strs o)]) (b := 5) s i1 hn rfl hl (fun j => xt0 o (hB 7 j));have c3 := xS0 6 o s [P0, P1, P2, P3, P4, rdB ts c ((i1 : Int) + 1) x0 x1 x2 x3 x4 x5 x6, .row 1 9 (strs o)] rfl (by omega);have c4 := qak9 (H := [P0, P1, P2, P3, P4, rdB ts c ((i1 : Int) + 1) x0 x1 x2 x3 x4 x5 x6, .row 1 9 (strs (o ++ [s]))]) (b := 5) (ts := ts) (c := c) (x0 := x0) (x1 := x1) (x2 := x2) (x3 := x3) (x4 := x4) (x5 := x5) (x6 := x6) (i1 + 1) (by rw [show ((i1 + 1 : Nat) : Int) = (i1 : Int) + 1 by omega]; rfl) hlt hl (xt0 (o ++ [s]) (hB 7 _));rw [show ((i1 + 1 : Nat) : Int) = (i1 : Int) + 1 by omega] at c4;rw [hc] at c3;simp only [List.set_cons_succ, List.set_cons_zero] at c2 c4;have hi3 : ((i1 + 2 : Nat) : Int) = (i1 : Int) + 1 + 1 := by omega
  have hsn := kL0 o s;have hq : ¬ (o.length : Int) = most := by omega
  have hlo := za0 o;have hlo2 : (strs (o ++ [s])).length = o.length + 1 := by rw [za0]; simp
  have c5 := fun H hb => wbv9 6 (o.length + 1) (o.length + 1) 9 (strs (o ++ [s])) none H hb hlo2.symm (l'd _);have hid1 : ∀ p, idsE p (strs o) = true := fun p => xa0 _ _;have hid2 : ∀ p, idsE p (strs (o ++ [s])) = true := fun p => xa0 _ _;have e0 : (strs o).take o.length = strs o := l'y (by omega);have e1 : (strs o).drop (o.length + 1) = [] := l'M (by omega);have hbb := hB 7 ((i1 : Int) + 1 + 1);have htk : ∀ t : Tk, ([P0, P1, P2, P3, P4, rdB ts c ((i1 : Int) + 1 + 1) x0 x1 x2 x3 x4 x5 x6, .row 1 9 (strs (o ++ [s])), .row 4 115 [tkA t]].take 7).all (Blk.below 7) = true := fun t => xt0 (o ++ [s]) hbb;have hlos : (o ++ [s]).length = o.length + 1 := by simp
  rcases hcase with ⟨ht, hr⟩|⟨ht, hr⟩
  ·injection hr with r1 r2
   subst r1 r2;rw [show i1 + 2 - 1 = i1 + 1 by omega, hlos, hi3];generalize ts.getD (i1 + 1) tk0 = t at *;obtain ⟨tk, tt, tl, tc⟩ := t;simp only at ht;subst ht;simp only [tkA] at c4 ⊢;generalize strs (o ++ [s]) = S1 at *;generalize strs o = S0 at *;repeat' (first|refine nv ?_|(with_reducible first|refine gG ?_ ?_|refine ⟨fun h => ?_, fun h => ?_⟩ <;> try omega|refine andG ?_)|refine cl c2 ?_|refine cl c3 ?_|refine cl c4 ?_|refine cl (c5 _ rfl) ?_|simp (disch := try exact discB) only [push_cast, simprocAttr, b0, b2, b7, hsn, hq, hlo, hlo2, e0, e1])
   all_goals rfl
  ·have hlk : f' < f' + 1 := by omega
   generalize ts.getD (i1 + 1) tk0 = t at *;obtain ⟨tk, tt, tl, tc⟩ := t;simp only at ht;subst ht;have h4459 : ¬ ([44] : Bs) = [59] := by decide
   have htk := htk ⟨tk, [44], tl, tc⟩;simp only [tkA] at c4 htk;generalize hS1 : strs (o ++ [s]) = S1 at *;generalize strs o = S0 at *;repeat' (first|refine nv ?_|(with_reducible first|refine gG ?_ ?_|refine ⟨fun h => ?_, fun h => ?_⟩ <;> try omega|refine andG ?_)|refine cl c2 ?_|refine cl c3 ?_|refine cl c4 ?_|simp (disch := try exact discB) only [push_cast, simprocAttr, b0, b2, b7, hsn, hq, hlo, hlo2, e0, e1, h4459])
   refine qe0 f' 7 hlk (by first|exact va0|fail) (by omega) (by simp) htk ⟨f', o ++ [s], i1 + 2, hr, by omega, by omega, by omega, rfl, by rw [hi3, hS1]; rfl, ?_⟩;simp (disch := try exact discB) only [push_cast, simprocAttr, b0, b2, b7, hsn, hq, hlo, hlo2, e0, e1, h4459];simp [xi0, AV.ids]
end
section
variable {ts : List Tk} {c : Option Nat} {P0 P1 P2 P3 P4 : Blk} {x0 x1 x2 x3 x4 x5 x6 : AV}
theorem qbw9 (w : Bs) (most i k : Nat) (e : Int) (hm : ql0 ts w most i = .no k e) (hi : i ≤ ts.length) (hmo : most ≤ 1000) (hl : ts.length ≤ 1000000) (hB : ∀ (n : Nat) (j : Int), [P0, P1, P2, P3, P4, rdB ts c j x0 x1 x2 x3 x4 x5 x6].all (Blk.below n) = true) :
  APan Tryz.prog G0 105 [.ptr 5 0 0 1, .str w, .int .i64 most] [P0, P1, P2, P3, P4, rdB ts c i x0 x1 x2 x3 x4 x5 x6] (fltV k e) [P0, P1, P2, P3, P4, rdB ts c (jnR ts k) x0 x1 x2 x3 x4 x5 x6] := by
 unfold ql0 at hm;cases h1 : xd0 ts w i with
 | no a b =>
  rw [h1] at hm;injection hm with q1 q2
  subst q1 q2;have hn := vL0 (H := [P0, P1, P2, P3, P4, rdB ts c i x0 x1 x2 x3 x4 x5 x6]) (b := 5) w i a b h1 hi rfl hl (hB 6);simp only [List.set_cons_succ, List.set_cons_zero] at hn;refine vj0 59 Tryz.func105 rfl rfl (by simp) ?_;intro s ⟨a0, a1, a2, hz⟩;simp only [l'g, Nat.reduceAdd] at a1 a2;clear hz;repeat' (first|(first|(with_reducible refine vb0 (p := [0, 1]) ?_)|refine nav ?_|(refine g0_ ?_; first|refine goD ?_))|(with_reducible first|refine gG ?_ ?_|refine ⟨fun h => ?_, fun h => ?_⟩ <;> try omega|refine andG ?_)|simp (disch := try exact discB) only [push_cast, simprocAttr, a0, a1, a2])
  refine Halt.mk ?_;refine vh0 (p := [0, 1]) 2 (by rfl) (by rfl) (by rfl) (by rfl) ?_;repeat' (first|refine nv ?_|(with_reducible first|refine gG ?_ ?_|refine ⟨fun h => ?_, fun h => ?_⟩ <;> try omega|refine andG ?_)|simp (disch := try exact discB) only [push_cast, simprocAttr, a0, a1, a2])
  exact ke0 trivial rfl rfl rfl xaU9 rfl hn ⟨rfl, .inl rfl⟩
 | ok u =>
  rw [h1] at hm;simp only [PE.bind] at hm;have hit := vm0 h1;have c1 := zq0 (H := [P0, P1, P2, P3, P4, rdB ts c i x0 x1 x2 x3 x4 x5 x6]) (b := 5) w i h1 rfl hl (hB 6);simp only [List.set_cons_succ, List.set_cons_zero] at c1;refine vj0 59 Tryz.func105 rfl rfl (by simp) ?_;intro s ⟨a0, a1, a2, hz⟩;simp only [l'g, Nat.reduceAdd] at a1 a2;clear hz;repeat' (first|refine nv ?_|(with_reducible first|refine gG ?_ ?_|refine ⟨fun h => ?_, fun h => ?_⟩ <;> try omega|refine andG ?_)|refine cl c1 ?_|simp (disch := try exact discB) only [push_cast, simprocAttr, a0, a1, a2])
  refine go_loop rfl (fun mz s' H' => ∃ (f : Nat) (o : List Bs) (i1 : Nat), kG0 ts most f o i1 = .no k e ∧ ts.length < f + i1 ∧ i1 ≤ ts.length ∧ o.length ≤ most ∧ mz = f ∧ H' = [P0, P1, P2, P3, P4, rdB ts c i1 x0 x1 x2 x3 x4 x5 x6, .row 1 9 (strs o)] ∧ s' 0 = .ptr 5 0 0 1 ∧ s' 2 = .int .i64 most ∧ s' 7 = .own 6 o.length o.length none) (m := ts.length + 1) (by first|exact va0|fail) (qr0 (t := 7) (sz := 1) (ty := 9) rfl) ⟨ts.length + 1, [], i + 1, hm, by omega, by omega, by simp, rfl, by simp [kf0], ?_⟩ ?_
  ·simp (disch := try exact discB) only [push_cast, simprocAttr, a0, a1, a2]
  rintro mz s' H' ⟨f, o, i1, hg, hf, hi1, ho, rfl, rfl, b0, b2, b7⟩;obtain ⟨f', rfl⟩ : ∃ f', mz = f' + 1 := ⟨mz - 1, by omega⟩;have hi3 : ((i1 + 2 : Nat) : Int) = (i1 : Int) + 1 + 1 := by omega
  have hi4 : (i1 : Int) + 1 - 1 = i1 := by omega
  have hi5 : (i1 : Int) + 1 + 1 - 1 = ((i1 + 1 : Nat) : Int) := by omega
  have hlo := za0 o;have hid1 : ∀ p, idsE p (strs o) = true := fun p => xa0 _ _;have e0 : (strs o).take o.length = strs o := l'y (by omega);have e1 : (strs o).drop (o.length + 1) = [] := l'M (by omega);have hf1 := fun H e => wL0 H (.ptr 5 0 0 1) i1 e;have hf2 := fun H e => wL0 H (.ptr 5 0 0 1) (i1 + 1) e;have hBs := fun j => xt0 (z := 1) (t := 9) o (hB 7 j);rcases qbH9 hg with hn|⟨s, hn, hcase⟩
  ·have c2 := vbv9 (H := [P0, P1, P2, P3, P4, rdB ts c i1 x0 x1 x2 x3 x4 x5 x6, .row 1 9 (strs o)]) (b := 5) i1 k e hn hi1 rfl hl hBs;simp only [List.set_cons_succ, List.set_cons_zero] at c2;generalize strs o = S0 at *;repeat' (first|(first|(with_reducible refine vb0 (p := [0, 0, 0, 0, 1, 1, 1]) ?_)|refine nav ?_|(refine g0_ ?_; first|refine goD ?_))|(with_reducible first|refine gG ?_ ?_|refine ⟨fun h => ?_, fun h => ?_⟩ <;> try omega|refine andG ?_)|simp (disch := try exact discB) only [push_cast, simprocAttr, b0, b2, b7])
   refine Halt.mk ?_;refine vh0 (p := [0, 0, 0, 0, 1, 1, 1]) 1 (by rfl) (by rfl) (by rfl) (by rfl) ?_;repeat' (first|refine nv ?_|(with_reducible first|refine gG ?_ ?_|refine ⟨fun h => ?_, fun h => ?_⟩ <;> try omega|refine andG ?_)|simp (disch := try exact discB) only [push_cast, simprocAttr, b0, b2, b7])
   exact ke0 trivial rfl rfl rfl kcO9 rfl c2 ⟨rfl, .inr ⟨hB 6 _, rfl⟩⟩
  have c2 := zak9 (H := [P0, P1, P2, P3, P4, rdB ts c i1 x0 x1 x2 x3 x4 x5 x6, .row 1 9 (strs o)]) (b := 5) s i1 hn rfl hl hBs;have c3 := xS0 6 o s [P0, P1, P2, P3, P4, rdB ts c ((i1 : Int) + 1) x0 x1 x2 x3 x4 x5 x6, .row 1 9 (strs o)] rfl (by omega);simp only [List.set_cons_succ, List.set_cons_zero] at c2;have hnl := wA0 hn;have hj1 : jnR ts i1 = (i1 : Int) + 1 := by unfold jnR; omega
  rcases hcase with ⟨hc, rfl, rfl⟩|⟨hc, hcase⟩
  ·rw [hc] at c3;rw [hj1];generalize strs o = S0 at *;unfold rdB rdC at *;repeat' (first|(first|(with_reducible refine vb0 (p := [0, 1, 0, 0, 1, 0, 0, 0, 1, 1, 1]) ?_)|refine nav ?_|(refine g0_ ?_; first|refine goD ?_))|(with_reducible first|refine gG ?_ ?_|refine ⟨fun h => ?_, fun h => ?_⟩ <;> try omega|refine andG ?_)|refine cl c2 ?_|refine cl c3 ?_|simp (disch := try exact discB) only [push_cast, simprocAttr, b0, b2, b7, hi4])
   refine Halt.mk ?_;refine vh0 (p := [0, 1, 0, 0, 1, 0, 0, 0, 1, 1, 1]) 6 (by rfl) (by rfl) (by rfl) (by rfl) ?_;repeat' (first|refine nv ?_|(with_reducible first|refine gG ?_ ?_|refine ⟨fun h => ?_, fun h => ?_⟩ <;> try omega|refine andG ?_)|refine cl c2 ?_|refine cl c3 ?_|simp (disch := try exact discB) only [push_cast, simprocAttr, b0, b2, b7, hi4])
   exact ke0 trivial rfl rfl rfl kaz9 rfl (hf1 _ _) ⟨rfl, .inr ⟨hB 6 _, rfl⟩⟩
  rw [hc] at c3;rcases hcase with ⟨hq, rfl, rfl⟩|⟨hq, hcase⟩
  ·rw [hj1];subst hq;generalize strs o = S0 at *;unfold rdB rdC at *;repeat' (first|(first|(with_reducible refine vb0 (p := [0, 1, 1, 1, 0, 0, 1, 0, 0, 0, 1, 1, 1]) ?_)|refine nav ?_|(refine g0_ ?_; first|refine goD ?_))|(with_reducible first|refine gG ?_ ?_|refine ⟨fun h => ?_, fun h => ?_⟩ <;> try omega|refine andG ?_)|refine cl c2 ?_|refine cl c3 ?_|simp (disch := try exact discB) only [push_cast, simprocAttr, b0, b2, b7, hi4])
   refine Halt.mk ?_;refine vh0 (p := [0, 1, 1, 1, 0, 0, 1, 0, 0, 0, 1, 1, 1]) 6 (by rfl) (by rfl) (by rfl) (by rfl) ?_;repeat' (first|refine nv ?_|(with_reducible first|refine gG ?_ ?_|refine ⟨fun h => ?_, fun h => ?_⟩ <;> try omega|refine andG ?_)|refine cl c2 ?_|refine cl c3 ?_|simp (disch := try exact discB) only [push_cast, simprocAttr, b0, b2, b7, hi4])
   exact ke0 trivial rfl rfl rfl kaz9 rfl (hf1 _ _) ⟨rfl, .inr ⟨hB 6 _, rfl⟩⟩
  have hq : ¬ (o.length : Int) = most := by omega
  have hsn := kL0 o s;have hlo2 : (strs (o ++ [s])).length = o.length + 1 := by rw [za0]; simp
  have hid2 : ∀ p, idsE p (strs (o ++ [s])) = true := fun p => xa0 _ _;have hlos : (o ++ [s]).length = o.length + 1 := by simp
  rcases hcase with ⟨hq4, hk, rfl⟩|⟨hlt, h59, hcase⟩
  ·rw [hk];have c4 := qaV9 (H := [P0, P1, P2, P3, P4, rdB ts c ((i1 : Int) + 1) x0 x1 x2 x3 x4 x5 x6, .row 1 9 (strs (o ++ [s]))]) (b := 5) (ts := ts) (c := c) (x0 := x0) (x1 := x1) (x2 := x2) (x3 := x3) (x4 := x4) (x5 := x5) (x6 := x6) (by rw [← hq4, show ((i1 + 1 : Nat) : Int) = (i1 : Int) + 1 by omega]; rfl) hl (xt0 (o ++ [s]) (hB 7 _));rw [show ts.length - 1 = i1 by omega] at c4;rw [hj1];generalize strs (o ++ [s]) = S1 at *;generalize strs o = S0 at *;repeat' (first|(first|(with_reducible refine vb0 (p := [0, 1, 1, 1, 0, 0, 0, 1, 1, 1]) ?_)|refine nav ?_|(refine g0_ ?_; first|refine goD ?_))|(with_reducible first|refine gG ?_ ?_|refine ⟨fun h => ?_, fun h => ?_⟩ <;> try omega|refine andG ?_)|refine cl c2 ?_|refine cl c3 ?_|simp (disch := try exact discB) only [push_cast, simprocAttr, b0, b2, b7, hsn, hq, hlo, hlo2, e0, e1])
   refine Halt.mk ?_;refine vh0 (p := [0, 1, 1, 1, 0, 0, 0, 1, 1, 1]) 1 (by rfl) (by rfl) (by rfl) (by rfl) ?_;repeat' (first|refine nv ?_|(with_reducible first|refine gG ?_ ?_|refine ⟨fun h => ?_, fun h => ?_⟩ <;> try omega|refine andG ?_)|refine cl c2 ?_|refine cl c3 ?_|simp (disch := try exact discB) only [push_cast, simprocAttr, b0, b2, b7, hsn, hq, hlo, hlo2, e0, e1])
   exact ke0 (by first|exact va0|fail) rfl rfl rfl zcP9 rfl c4 ⟨rfl, .inr ⟨hB 6 _, rfl⟩⟩
  have c4 := qak9 (H := [P0, P1, P2, P3, P4, rdB ts c ((i1 : Int) + 1) x0 x1 x2 x3 x4 x5 x6, .row 1 9 (strs (o ++ [s]))]) (b := 5) (ts := ts) (c := c) (x0 := x0) (x1 := x1) (x2 := x2) (x3 := x3) (x4 := x4) (x5 := x5) (x6 := x6) (i1 + 1) (by rw [show ((i1 + 1 : Nat) : Int) = (i1 : Int) + 1 by omega]; rfl) hlt hl (xt0 (o ++ [s]) (hB 7 _));rw [show ((i1 + 1 : Nat) : Int) = (i1 : Int) + 1 by omega] at c4;simp only [List.set_cons_succ, List.set_cons_zero] at c4;have hbb := hB 7 ((i1 : Int) + 1 + 1);have htk : ∀ t : Tk, ([P0, P1, P2, P3, P4, rdB ts c ((i1 : Int) + 1 + 1) x0 x1 x2 x3 x4 x5 x6, .row 1 9 (strs (o ++ [s])), .row 4 115 [tkA t]].take 7).all (Blk.below 7) = true := fun t => xt0 (o ++ [s]) hbb;generalize ts.getD (i1 + 1) tk0 = t at *;have htk := htk t;obtain ⟨tk, tt, tl, tc⟩ := t;simp only at h59 hcase;simp only [tkA] at c4 htk;rcases hcase with ⟨h44, hr⟩|⟨h44, rfl, rfl⟩
  ·subst h44;have h4459 : ¬ ([44] : Bs) = [59] := by decide
   have hlk : f' < f' + 1 := by omega
   generalize hS1 : strs (o ++ [s]) = S1 at *;generalize strs o = S0 at *;repeat' (first|refine nv ?_|(with_reducible first|refine gG ?_ ?_|refine ⟨fun h => ?_, fun h => ?_⟩ <;> try omega|refine andG ?_)|refine cl c2 ?_|refine cl c3 ?_|refine cl c4 ?_|simp (disch := try exact discB) only [push_cast, simprocAttr, b0, b2, b7, hsn, hq, hlo, hlo2, e0, e1, h4459])
   refine qe0 f' 7 hlk (by first|exact va0|fail) (by omega) (by simp) htk ⟨f', o ++ [s], i1 + 2, hr, by omega, by omega, by omega, rfl, by rw [hi3, hS1]; rfl, ?_⟩;simp (disch := try exact discB) only [push_cast, simprocAttr, b0, b2, b7, hsn, hq, hlo, hlo2, e0, e1, h4459];simp [xi0, AV.ids]
  ·rw [show jnR ts (i1 + 1) = (i1 : Int) + 1 + 1 by unfold jnR; omega];generalize strs (o ++ [s]) = S1 at *;generalize strs o = S0 at *;unfold rdB rdC at *;repeat' (first|(first|(with_reducible refine vb0 (p := [0, 1, 1, 1, 1, 1, 1, 0, 0, 0, 1, 1, 1]) ?_)|refine nav ?_|(refine g0_ ?_; first|refine goD ?_))|(with_reducible first|refine gG ?_ ?_|refine ⟨fun h => ?_, fun h => ?_⟩ <;> try omega|refine andG ?_)|refine cl c2 ?_|refine cl c3 ?_|refine cl c4 ?_|simp (disch := try exact discB) only [push_cast, simprocAttr, b0, b2, b7, hsn, hq, hlo, hlo2, e0, e1, h59, h44, hi5])
   refine Halt.mk ?_;refine vh0 (p := [0, 1, 1, 1, 1, 1, 1, 0, 0, 0, 1, 1, 1]) 6 (by rfl) (by rfl) (by rfl) (by rfl) ?_;repeat' (first|refine nv ?_|(with_reducible first|refine gG ?_ ?_|refine ⟨fun h => ?_, fun h => ?_⟩ <;> try omega|refine andG ?_)|refine cl c2 ?_|refine cl c3 ?_|refine cl c4 ?_|simp (disch := try exact discB) only [push_cast, simprocAttr, b0, b2, b7, hsn, hq, hlo, hlo2, e0, e1, h59, h44, hi5])
   exact ke0 trivial rfl rfl rfl kaz9 rfl (hf2 _ _) ⟨rfl, .inr ⟨hB 6 _, rfl⟩⟩
end
theorem zdL9 (H : List Blk) (n : Nat) (hn : n ≤ 1000000) : qb0 Tryz.prog G0 131 [.int .u64 1, .int .u64 n] H (.tup [.int .u64 0, .int .u64 n]) H := by
 refine qh0 fun S vals hok hG ha => ?_;obtain ⟨u, us, rfl, hu, h2⟩ := ha;obtain ⟨v, vs, rfl, hv, h3⟩ := h2;simp only [RelL] at h3;subst h3;simp only [Rel] at hu hv;subst hu hv;have h := Tryz.bits_Mul 1 n (by omega) (by omega) S.w;rw [show 1 * n / 18446744073709551616 = 0 by omega, show 1 * n % 18446744073709551616 = n by omega] at h;refine h.mono fun e w' ⟨h1, h2⟩ => ?_;exact ⟨_, h1, h2 ▸ Go.RowKit.Below.refl _ _, fun E _ _ => by simp [Rel, RelL]⟩
def rzA (e : Edg) (n k : Nat) : List (List AV) := List.replicate k (eA e) ++ List.replicate (n - k) [.int .i64 0, .int .i64 0]
theorem zdt9 (e : Edg) (n k : Nat) (h : k ≤ n) : (rzA e n k).length = n := by simp [rzA]; omega
theorem xdt9 (e : Edg) (n k : Nat) : ∀ p, idsE p (rzA e n k) = true := fun p => by
 rw [zu0]; intro x hx;simp only [rzA, n'w, List.mem_replicate] at hx;rcases hx with ⟨_, rfl⟩|⟨_, rfl⟩ <;> simp [eA, idsL, AV.ids]
theorem wdt9 (e : Edg) (n : Nat) : rzA e n n = rowA (List.replicate n e) := by simp [rzA, rowA]
theorem zbH9 (e : Edg) (n k : Nat) (h : k ≤ n) : (rzA e n k).take k = List.replicate k (eA e) := by
 rw [rzA, n'i (by simp)]
theorem qcS9 (e : Edg) (n k : Nat) (h : k ≤ n) : (rzA e n k).take k ++ (List.replicate k (eA e)).take (min k (n - k)) ++ (rzA e n k).drop (k + min k (n - k)) = rzA e n (k + min k (n - k)) := by
 have hm : min k (n - k) ≤ k := Nat.min_le_left ..;have hm2 : min k (n - k) ≤ n - k := Nat.min_le_right ..;generalize min k (n - k) = m at *;rw [zbH9 e n k h, List.take_replicate, n'q hm, l't, rzA, List.drop_append, l'M (by simp), l'V, List.nil_append, z'g, List.drop_replicate, rzA, ← l't, List.replicate_append_replicate, show n - k - m = n - (k + m) by omega]
theorem xdL9 (e : Edg) (n : Nat) (h1 : 1 ≤ n) (hn : n ≤ 100000) (H : List Blk) :
  qb0 Tryz.prog G0 106 [.sl 2 (rowA [e]) (some 1), .int .i64 n] H (.own H.length n n (some n)) (H ++ [.row 2 70 (rowA (List.replicate n e))]) := by
 have hm := fun H => zdL9 H n (by omega);have hw1 : IntKind.u64.wrap (n : Int) = n := by rw [IntKind.wrap_u64]; omega
 have hg : ∀ X : Blk, (H ++ [X])[H.length]? = some X := fun X => by rw [l'q (l'd _), l'N]; rfl
 have hs : ∀ X Y : Blk, (H ++ [X]).set H.length Y = H ++ [Y] := fun X Y => by rw [l'O _ _ (l'd _), l'N]; rfl
 have hn0 : ¬ (n : Int) < 0 := by omega
 have hbig : ¬ (9223372036854775807 : Int) < n := by omega
 have hw2 : IntKind.u64.wrap 1 = 1 := rfl;have hra : rowA [e] = [eA e] := rfl;rw [hra, ← wdt9];refine zp0 48 [.tmp 4] Tryz.func106 rfl rfl rfl (by simp) ?_;intro s ⟨a0, a1, hz⟩;simp only [l'g, Nat.reduceAdd] at a1;clear hz;repeat' (first|refine nv ?_|(with_reducible first|refine gG ?_ ?_|refine ⟨fun h => ?_, fun h => ?_⟩ <;> try omega|refine andG ?_)|refine cl (hm _) ?_|simp (disch := try exact discB) only [push_cast, simprocAttr, a0, a1, hw1, hg, hs, hn0, hbig, hw2])
 refine go_loop rfl (fun mz s' H' => ∃ k : Nat, 1 ≤ k ∧ k ≤ n ∧ mz = n - k ∧ H' = H ++ [.row 2 70 (rzA e n k)] ∧ s' 7 = .own H.length n n (some n) ∧ s' 8 = .int .i64 k) (m := n - 1) (by first|exact va0|fail) (Weak.refl _ _) ⟨1, by omega, by omega, rfl, ?_, ?_⟩ ?_
 ·rw [show min 1 n = 1 by omega, List.drop_replicate]; rfl
 ·simp (disch := try exact discB) only [push_cast, simprocAttr, a0, a1, hw1, hg, hs, hn0, hbig, hw2];rw [show min 1 n = 1 by omega]; rfl
 rintro mz s' H' ⟨k, hk1, hk, rfl, rfl, b7, b8⟩;have hl := zdt9 e n k hk;have hid := xdt9 e n k;have ht := zbH9 e n k hk;rcases l'h k n with hlt|hge
 ·have hst := qcS9 e n k hk;have hk0 : ¬ (k : Int) = 0 := by omega
  have hidr : ∀ p, idsE p (List.replicate k (eA e)) = true := fun p => by rw [← ht, zu0]; intro x hx; exact (zu0 _).1 (hid p) x (l'P hx)
  generalize hZ : rzA e n k = Z at *;repeat' (first|refine nv ?_|(with_reducible first|refine gG ?_ ?_|refine ⟨fun h => ?_, fun h => ?_⟩ <;> try omega|refine andG ?_)|simp (disch := try exact discB) only [push_cast, simprocAttr, b7, b8, hg, hs, hl, ht, hk0, l'V, Int.toNat_natCast])
  rw [ht] at hst;refine wa0 (n - (k + min k (n - k))) (by omega) (by first|exact va0|fail) ⟨k + min k (n - k), by omega, by omega, rfl, by rw [hst], ?_⟩;simp (disch := try exact discB) only [push_cast, simprocAttr, b7, b8, hg, hs, hl, ht, hk0, l'V, Int.toNat_natCast]
 ·obtain rfl : k = n := by omega
  generalize hZ : rzA e k k = Z at *;repeat' (first|refine nv ?_|(with_reducible first|refine gG ?_ ?_|refine ⟨fun h => ?_, fun h => ?_⟩ <;> try omega|refine andG ?_)|simp (disch := try exact discB) only [push_cast, simprocAttr, b7, b8, hg, hs, hl])
end Go.Proofs
