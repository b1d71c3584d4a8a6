import Derived.Test.YtlpjemobbjijdaaGreatDoorS44
import Derived.Test.YtlpjemobbjijdaaGreatDoorS12
import Derived.Test.YtlpjemobbjijdaaGreatDoorS13
namespace Go.Proofs
open Go Go.V
set_option linter.unusedVariables false
set_option linter.unusedSimpArgs false
set_option maxHeartbeats 0
set_option maxRecDepth 100000
def lsG (l : List Tk) (most : Nat) : Nat → List Bs → Nat → RS × List Bs
 | 0, _, i => ((i, 4), [])
 | f + 1, o, i => match wh0 l i with
  | .no k e => ((k, e), [])
  | .ok s => if o.contains s = true then ((i, 8), []) else if o.length = most then ((i, 3), []) else
   if i + 1 < l.length ∧ (l.getD (i + 1) tk0).t = [44] then lsG l most f (o ++ [s]) (i + 2) else (zh0 l [59] (i + 1, 0), o ++ [s])
def xB0 (l : List Tk) (w : Bs) (most : Nat) (r : RS) : RS × List Bs := if (zh0 l w r).2 ≠ 0 then (zh0 l w r, []) else lsG l most (l.length + 1) [] (zh0 l w r).1
def zB (l : List Bs) : Nat := if l = [] then 0 else 1
def cB (l : List Bs) : Option Nat := if l = [] then some 0 else none
theorem kcV9 (l : List Bs) : l = [] ∨ zB l = 1 := by unfold zB; split; exact .inl ‹_›; exact .inr rfl
theorem zaW9 : AV.sl 0 [] (some 0) = .sl (zB []) (strs []) (cB []) := rfl
theorem zy0 {l : List Tk} {w : Bs} {i k : Nat} {e : Int} (h : xd0 l w i = .no k e) : e ≠ 0 := by
 unfold xd0 xp0 at h;split at h
 ·simp only [PE.bind] at h;split at h
  ·cases h
  ·injection h with _ q; omega
 ·injection h with _ q; omega
theorem qQ0 {l : List Tk} {i k : Nat} {e : Int} (h : wh0 l i = .no k e) : e ≠ 0 := by
 unfold wh0 xp0 at h;split at h
 ·simp only [PE.bind] at h;split at h
  ·split at h
   ·injection h with _ q; omega
   ·cases h
  ·injection h with _ q; omega
 ·injection h with _ q; omega
theorem zas9 {l : List Tk} {w : Bs} {r : RS} (h : (zh0 l w r).2 = 0) (hr : r.2 = 0 → r.1 ≤ l.length) : (zh0 l w r).1 ≤ l.length := by
 unfold zh0 at *;split at h
 ·rename_i q; exact absurd h q
 ·rename_i q;rw [if_neg q];cases hm : xd0 l w r.1 with
  | ok u => have := vm0 hm; simp only [hm]; omega
  | no k e => rw [hm] at h; exact absurd h (zy0 hm)
theorem qcW9 (l : List Bs) (s : Bs) : decide (0 ≤ idxI l s) = l.contains s := by
 rw [idxI, qac9, l'X, l'H, n'y];constructor
 ·rintro ⟨x, hx, h⟩; rw [decide_eq_true_eq] at h; rw [← h]; exact hx
 ·intro h; exact ⟨s, h, by simp⟩
theorem vaG9 (b : Nat) (o : List Bs) (s0 : Bs) (H : List Blk) (hb : H[b]? = some (.row 1 9 (strs o))) (hl : o.length ≤ 1000000) : qb0 Tryz.prog G0 36 [.own b o.length o.length none, .str s0] H (.int .i64 (idxI o s0)) H := by
 have hl2 := za0 o;refine vcf9 1 ?_ ?_ (vaj9 1 o none s0 (.inr rfl) (by omega)) rfl
 ·rw [List.all_cons, wdb9 hb hl2.symm hl2.symm (xa0 _ _)]; rfl
 ·rw [List.map_cons, wbg9 hb hl2.symm hl2.symm]; rfl
theorem ven9 (o : List Bs) (s : Bs) : strs o ++ [[.str s]] = strs (o ++ [s]) := by simp [strs]
section
variable (ts : List Tk) (c : Option Nat) (g : RX)
def zR : List AV := [.sl 0 [] (some 0), .int .i64 0, .int .i64 0, .str [], .int .i64 0, .int .i64 0, .sl 0 [] (some 0), .sl 0 [] (some 0), .sl 0 [] (some 0), .sl 0 [] (some 0)]
theorem qcy9 (w : Bs) (most : Nat) (r : RS) (hl : ts.length ≤ 1000000) (hr : r.2 = 0 → r.1 ≤ ts.length) (hm : most ≤ 1000) : PC Tryz.prog G0 73 [.agg (stR ts c r.1 r.2 g), .str w, .int .i64 most] (.tup [.agg (stR ts c (xB0 ts w most r).1.1 (xB0 ts w most r).1.2 g), .sl (zB (xB0 ts w most r).2) (strs (xB0 ts w most r).2) (cB (xB0 ts w most r).2)]) := by
 have hid := fun p a e => kP0 p ts c a e g;have hL := wd0 ts;have hM := qae9 ts c g w r hl hr;have hle := fun h => zas9 (w := w) h hr;unfold xB0;generalize zh0 ts w r = r1 at *;obtain ⟨p1, q1⟩ := r1;obtain ⟨a, e⟩ := r;simp only at hM hle hr ⊢;have hit : ∀ p, idsE p (tks ts) = true := fun p => vp0 p _;by_cases hq : q1 = 0
 rotate_left
 ·rw [if_pos (show q1 ≠ 0 from hq), ← zaW9];unfold stR at *;refine wb0 0 72 [.cell 6 123, .tmp 7] Tryz.func73 rfl rfl rfl (by simp) ?_;intro s ⟨a0, a1, a2, hz⟩;simp only [l'g, Nat.reduceAdd] at a1 a2;clear hz;repeat' (first|refine nv ?_|(with_reducible first|refine gG ?_ ?_|refine ⟨fun h => ?_, fun h => ?_⟩ <;> try omega|refine andG ?_)|refine cp hM ?_ (hi := by (simp [idsL, idsE, AV.ids, hid]))|simp (disch := try exact discB) only [push_cast, simprocAttr, a0, a1, a2, hq])
  refine kq0 (by first|exact va0|fail) (qr0 (t := 8) (z := 0) (sz := 1) (ty := 9) rfl) ?_;refine go_loop rfl (fun mz s' H' => mz = 0 ∧ H' = [.row 10 123 [stR ts c p1 q1 g], .row 10 123 [zR], .row 1 9 []] ∧ s' 3 = .ptr 0 0 0 1 ∧ s' 6 = .ptr 1 0 0 1) (m := 0) (by first|exact va0|fail) (Weak.refl _ _) ⟨rfl, rfl, ?_⟩ ?_
  ·simp (disch := try exact discB) only [push_cast, simprocAttr, a0, a1, a2, hq]
  ·rintro mz s' H' ⟨rfl, rfl, b3, b6⟩;unfold stR zR;repeat' (first|refine nv ?_|(with_reducible first|refine gG ?_ ?_|refine ⟨fun h => ?_, fun h => ?_⟩ <;> try omega|refine andG ?_)|simp (disch := try exact discB) only [push_cast, simprocAttr, b3, b6, hq])
 ·subst hq;have hle := hle rfl;rw [if_neg (show ¬ ((0 : Int) ≠ 0) by decide)];generalize hT : lsG ts most (ts.length + 1) [] p1 = T;unfold stR at hM;obtain ⟨⟨k, e2⟩, L⟩ := T;simp only;unfold stR;refine wb0 1 72 [.cell 6 123, .tmp 7] Tryz.func73 rfl rfl rfl (by simp) ?_;intro s ⟨a0, a1, a2, hz⟩;simp only [l'g, Nat.reduceAdd] at a1 a2;clear hz;repeat' (first|refine nv ?_|(with_reducible first|refine gG ?_ ?_|refine ⟨fun h => ?_, fun h => ?_⟩ <;> try omega|refine andG ?_)|refine cp hM ?_ (hi := by (simp [idsL, idsE, AV.ids, hid]))|simp (disch := try exact discB) only [push_cast, simprocAttr, a0, a1, a2])
  refine kq0 (by first|exact va0|fail) (qr0 (t := 8) (z := 0) (sz := 1) (ty := 9) rfl) ?_;refine go_loop rfl (fun mz s' H' => ∃ (i : Nat) (o : List Bs), ts.length < mz + i ∧ i ≤ ts.length ∧ o.length ≤ most ∧ lsG ts most mz o i = ((k, e2), L) ∧ H' = [.row 10 123 [stR ts c i 0 g], .row 10 123 [zR], .row 1 9 (strs o)] ∧ s' 1 = .str w ∧ s' 2 = .int .i64 most ∧ s' 3 = .ptr 0 0 0 1 ∧ s' 6 = .ptr 1 0 0 1 ∧ s' 8 = .own 2 o.length o.length none) (m := ts.length + 1) (by first|exact va0|fail) (Weak.refl _ _) ⟨p1, [], by omega, hle, by simp, hT, rfl, ?_⟩ ?_
  ·simp (disch := try exact discB) only [push_cast, simprocAttr, a0, a1, a2]
  ·clear hT;rintro mz s' H' ⟨i, o, hmz, hil, ho, hT, rfl, b1, b2, b3, b6, b8⟩;obtain ⟨f, rfl⟩ : ∃ f, mz = f + 1 := ⟨mz - 1, by omega⟩;have hN := kcx9 ts c g (i, 0) hl (fun _ => hil);have hlo := za0 o;have hos : ∀ p, idsE p (strs o) = true := fun p => xa0 p _;have hf := fun a e a' e' => qaO9 ts c g a e a' e';rw [lsG] at hT;unfold qap9 at hN;simp only at hN;rw [if_neg (by decide)] at hN;clear hM a0 a1 a2;cases hnm : wh0 ts i with
   | no k1 e1 =>
    rw [hnm] at hN hT;have he1 := qQ0 hnm;simp only [Prod.mk.injEq] at hT hN;obtain ⟨⟨rfl, rfl⟩, rfl⟩ := hT;rw [← zaW9];unfold stR zR at *;repeat' (first|refine nv ?_|(with_reducible first|refine gG ?_ ?_|refine ⟨fun h => ?_, fun h => ?_⟩ <;> try omega|refine andG ?_)|refine cp hN ?_ (hi := by (simp [idsL, idsE, AV.ids, hid, hos]))|simp (disch := try exact discB) only [push_cast, simprocAttr, b1, b2, b3, b6, b8, he1])
   | ok s0 =>
    rw [hnm] at hN hT;have hi := wA0 hnm;have hI := vaG9 2 o s0 [.row 10 123 [stR ts c (i + 1) 0 g], .row 10 123 [zR], .row 1 9 (strs o)] rfl (by omega);have hix := qcW9 o s0;have hcast : ((i + 1 : Nat) : Int) = (i : Int) + 1 := by omega
    have hcast2 : ((i : Int) + 1 - 1) = (i : Int) := by omega
    simp only at hT hN;cases hc : o.contains s0 with
    | true =>
     rw [hc, decide_eq_true_eq] at hix;rw [if_pos hc] at hT;simp only [Prod.mk.injEq] at hT;obtain ⟨⟨rfl, rfl⟩, rfl⟩ := hT;rw [← zaW9];have hf := hf (i + 1) 0 i 8;generalize idxI o s0 = v at *;simp only [stR, zR, hcast] at hN hI hf ⊢;repeat' (first|refine nv ?_|(with_reducible first|refine gG ?_ ?_|refine ⟨fun h => ?_, fun h => ?_⟩ <;> try omega|refine andG ?_)|refine cp hN ?_ (hi := by (simp [idsL, idsE, AV.ids, hid, hos]))|refine cl hI ?_|refine cp hf ?_ (hi := by (simp [idsL, idsE, AV.ids, hid, hos]))|simp (disch := try exact discB) only [push_cast, simprocAttr, b1, b2, b3, b6, b8, hix, hcast2])
    | false =>
     rw [hc, decide_eq_false_iff_not] at hix;rw [if_neg (by rw [hc]; decide)] at hT;by_cases hlm : o.length = most
     ·rw [if_pos hlm] at hT;simp only [Prod.mk.injEq] at hT;obtain ⟨⟨rfl, rfl⟩, rfl⟩ := hT;rw [← zaW9];have hf := hf (i + 1) 0 i 3;have hlmi : (o.length : Int) = most := by omega
      generalize idxI o s0 = v at *;simp only [stR, zR, hcast] at hN hI hf ⊢;repeat' (first|refine nv ?_|(with_reducible first|refine gG ?_ ?_|refine ⟨fun h => ?_, fun h => ?_⟩ <;> try omega|refine andG ?_)|refine cp hN ?_ (hi := by (simp [idsL, idsE, AV.ids, hid, hos]))|refine cl hI ?_|refine cp hf ?_ (hi := by (simp [idsL, idsE, AV.ids, hid, hos]))|simp (disch := try exact discB) only [push_cast, simprocAttr, b1, b2, b3, b6, b8, hix, hcast2, hlmi])
     ·rw [if_neg hlm] at hT;have hlmi : ¬ (o.length : Int) = most := by omega
      have hsn := ven9 o s0;have hlo2 : (o ++ [s0]).length = o.length + 1 := by simp
      have hlo3 := za0 (o ++ [s0]);have hos2 : ∀ p, idsE p (strs (o ++ [s0])) = true := fun p => xa0 p _;by_cases hcm : i + 1 < ts.length ∧ (ts.getD (i + 1) tk0).t = [44]
      ·rw [if_pos hcm] at hT;obtain ⟨hc1, hc2⟩ := hcm;have e1 := qn0 ts (i + 1) hc1;have hc3 : ((i : Int) + 1) < ts.length := by omega
       have htn : ((i : Int) + 1).toNat = i + 1 := by omega
       have hi2 : (i : Int) + 1 + 1 = ((i + 2 : Nat) : Int) := by omega
       unfold tkA at e1;rw [hc2] at e1;rw [hlo2] at hlo3;have hmo2 : o.length + 1 ≤ most := by omega
       generalize o ++ [s0] = o2 at *;generalize idxI o s0 = v at *;simp only [stR, zR, hcast] at hN hI ⊢;repeat' (first|refine nv ?_|(with_reducible first|refine gG ?_ ?_|refine ⟨fun h => ?_, fun h => ?_⟩ <;> try omega|refine andG ?_)|refine cp hN ?_ (hi := by (simp [idsL, idsE, AV.ids, hid, hos]))|refine cl hI ?_|simp (disch := try exact discB) only [push_cast, simprocAttr, b1, b2, b3, b6, b8, hix, hcast2, hlmi, e1, hc3, hlo, hlo3, hsn, htn])
       refine wa0 f (by omega) (by first|exact va0|fail) ⟨i + 2, o2, by omega, by omega, by omega, hT, by rw [hi2], ?_⟩;rw [hlo2];simp (disch := try exact discB) only [push_cast, simprocAttr, b1, b2, b3, b6, b8, hix, hcast2, hlmi, e1, hc3, hlo, hlo3, hsn, htn]
      ·rw [if_neg hcm] at hT;have hM := qae9 ts c g [59] (i + 1, 0) hl (fun _ => by simp only; omega);have e1 := qn0 ts (i + 1);injection hT with t1 t2
       rw [t1] at hM;subst t2;rw [show zB (o ++ [s0]) = 1 from if_neg (by simp), show cB (o ++ [s0]) = none from if_neg (by simp)];have htn : ((i : Int) + 1).toNat = i + 1 := by omega
       rw [hlo2] at hlo3;clear t1;by_cases hc3 : i + 1 < ts.length
       ·have e1 := e1 hc3;have hc3i : ((i : Int) + 1) < ts.length := by omega
        have hne : ¬ (ts.getD (i + 1) tk0).t = [44] := fun h => hcm ⟨hc3, h⟩;have hned : decide ((ts.getD (i + 1) tk0).t = [44]) = false := decide_eq_false hne;unfold tkA at e1;clear hcm;generalize o ++ [s0] = o2 at *;generalize idxI o s0 = v at *;simp only [stR, zR, hcast] at hN hI hM ⊢;repeat' (first|refine nv ?_|(with_reducible first|refine gG ?_ ?_|refine ⟨fun h => ?_, fun h => ?_⟩ <;> try omega|refine andG ?_)|refine cp hN ?_ (hi := by (simp [idsL, idsE, AV.ids, hid, hos, hos2]))|refine cl hI ?_|refine cp hM ?_ (hi := by (simp [idsL, idsE, AV.ids, hid, hos, hos2]))|simp (disch := try exact discB) only [push_cast, simprocAttr, b1, b2, b3, b6, b8, hix, hcast2, hlmi, e1, hc3i, hlo, hlo3, hsn, htn, hne, hned])
       ·have hc3i : ¬ ((i : Int) + 1) < ts.length := by omega
        clear hcm e1;generalize o ++ [s0] = o2 at *;generalize idxI o s0 = v at *;simp only [stR, zR, hcast] at hN hI hM ⊢;repeat' (first|refine nv ?_|(with_reducible first|refine gG ?_ ?_|refine ⟨fun h => ?_, fun h => ?_⟩ <;> try omega|refine andG ?_)|refine cp hN ?_ (hi := by (simp [idsL, idsE, AV.ids, hid, hos, hos2]))|refine cl hI ?_|refine cp hM ?_ (hi := by (simp [idsL, idsE, AV.ids, hid, hos, hos2]))|simp (disch := try exact discB) only [push_cast, simprocAttr, b1, b2, b3, b6, b8, hix, hcast2, hlmi, hc3i, hlo, hlo3, hsn, htn])
end
theorem vM0 (l : List Tk) (w : Bs) (i : Nat) : zh0 l w (i, 0) = match xd0 l w i with|.ok _ => (i + 1, 0)|.no k e => (k, e) := rfl
theorem qde9 (l : List Tk) (i : Nat) : qap9 l (i, 0) = match wh0 l i with|.ok s => ((i + 1, 0), s)|.no k e => ((k, e), []) := rfl
theorem ofS0 (l : List Tk) (ns : List Bs) (i : Nat) : ofS' l ns (i, 0) = match ofM l ns i with|.ok k => ((i + 1, 0), k)|.no k e => ((k, e), 0) := rfl
theorem xI0 (l : List Tk) (w : Bs) {k : Nat} {e : Int} (h : e ≠ 0) : zh0 l w (k, e) = (k, e) := if_pos h
theorem zde9 (l : List Tk) {k : Nat} {e : Int} (h : e ≠ 0) : qap9 l (k, e) = ((k, e), []) := if_pos h
theorem ofS1 (l : List Tk) (ns : List Bs) {k : Nat} {e : Int} (h : e ≠ 0) : ofS' l ns (k, e) = ((k, e), 0) := if_pos h
theorem zcy9 (l : List Tk) (w : Bs) (m : Nat) {k : Nat} {e : Int} (h : e ≠ 0) : xB0 l w m (k, e) = ((k, e), []) := by
 unfold xB0; rw [xI0 l w h, if_pos h]
theorem wbk9 {l : List Tk} {ns : List Bs} {i k : Nat} {e : Int} (h : ofM l ns i = .no k e) : e ≠ 0 := by
 unfold ofM at h;cases h1 : wh0 l i with
 | no a b => rw [h1] at h; injection h with q1 q2; exact q2 ▸ qQ0 h1
 | ok s =>
  rw [h1] at h;simp only [PE.bind] at h;split at h
  ·cases h
  ·injection h with _ q; omega
theorem xde9 (l : List Tk) (most : Nat) : ∀ (f : Nat) (o : List Bs) (i : Nat), match kG0 l most f o i with|.ok q => lsG l most f o i = ((q.2, 0), q.1)|.no k e => (lsG l most f o i).1 = (k, e) ∧ e ≠ 0
 | 0, o, i => ⟨rfl, by decide⟩
 | f + 1, o, i => by
  rw [kG0, lsG];cases h1 : wh0 l i with
  | no k e => exact ⟨rfl, qQ0 h1⟩
  | ok s =>
   simp only [PE.bind];by_cases h2 : o.contains s = true
   ·rw [if_pos h2, if_pos h2]; exact ⟨rfl, by decide⟩
   rw [if_neg h2, if_neg h2];by_cases h3 : o.length = most
   ·rw [if_pos h3, if_pos h3]; exact ⟨rfl, by decide⟩
   rw [if_neg h3, if_neg h3];have ih := xde9 l most f (o ++ [s]) (i + 2);unfold xp0;by_cases h4 : i + 1 < l.length
   ·rw [if_pos h4];simp only;by_cases h5 : (l.getD (i + 1) tk0).t = [59]
    ·rw [if_pos h5, if_neg (by rintro ⟨_, q⟩; rw [h5] at q; cases q), vM0];unfold xd0 xp0;rw [if_pos h4];simp only [PE.bind];rw [if_pos h5]
    rw [if_neg h5];by_cases h6 : (l.getD (i + 1) tk0).t = [44]
    ·rw [if_pos h6, if_pos ⟨h4, h6⟩]; exact ih
    ·rw [if_neg h6, if_neg (fun q => h6 q.2), vM0];unfold xd0 xp0;rw [if_pos h4];simp only [PE.bind];rw [if_neg h5];exact ⟨rfl, by decide⟩
   ·rw [if_neg h4, if_neg (fun q => h4 q.1), vM0];unfold xd0 xp0;rw [if_neg h4];exact ⟨rfl, by show (4 : Int) ≠ 0; decide⟩
theorem xaW9 (l : List Tk) (w : Bs) (most i : Nat) : match ql0 l w most i with|.ok q => xB0 l w most (i, 0) = ((q.2, 0), q.1)|.no k e => (xB0 l w most (i, 0)).1 = (k, e) ∧ e ≠ 0 := by
 unfold ql0 xB0;rw [vM0];cases h1 : xd0 l w i with
 | no k e =>
  have he := zy0 h1;simp only [PE.bind];rw [if_pos he]; exact ⟨rfl, he⟩
 | ok u =>
  simp only [PE.bind];rw [if_neg (by decide)];exact xde9 l most (l.length + 1) [] (i + 1)
theorem xcy9 (l : List Tk) (most : Nat) : ∀ (f : Nat) (o : List Bs) (i : Nat), o.length ≤ most → (lsG l most f o i).2.length ≤ most
 | 0, o, i, h => n'b _
 | f + 1, o, i, h => by
  rw [lsG];cases h1 : wh0 l i with
  | no k e => exact n'b _
  | ok s =>
   simp only;split
   ·exact n'b _
   split
   ·exact n'b _
   split
   ·exact xcy9 l most f _ _ (by simp; omega)
   ·simp; omega
theorem qaD9 (l : List Tk) (w : Bs) (most : Nat) (r : RS) : (xB0 l w most r).2.length ≤ most := by
 unfold xB0;split
 ·exact n'b _
 ·exact xcy9 _ _ _ _ _ (n'b _)
def zae9 (l : List Tk) (ins outs sts : List Bs) (r : RS) : RS × (Nat × Nat × Nat × Nat) :=
 (zh0 l [59] (ofS' l sts (zh0 l [45, 62] (ofS' l outs (zh0 l [47] (ofS' l ins (ofS' l sts r).1).1)).1)).1,
  (ofS' l sts r).2, (ofS' l ins (ofS' l sts r).1).2, (ofS' l outs (zh0 l [47] (ofS' l ins (ofS' l sts r).1).1)).2,
  (ofS' l sts (zh0 l [45, 62] (ofS' l outs (zh0 l [47] (ofS' l ins (ofS' l sts r).1).1)).1)).2)
theorem wcy9 (l : List Tk) (ins outs sts : List Bs) (i : Nat) : match vI0 l ins outs sts i with|.ok q => zae9 l ins outs sts (i, 0) = ((i + 7, 0), q)|.no k e => (zae9 l ins outs sts (i, 0)).1 = (k, e) ∧ e ≠ 0 := by
 unfold vI0 zae9;rw [ofS0];cases h1 : ofM l sts i with
 | no k e =>
  have he := wbk9 h1;simp only [PE.bind, ofS1 _ _ he, xI0 _ _ he];exact ⟨trivial, he⟩
 | ok a =>
 simp only [PE.bind];rw [ofS0];cases h2 : ofM l ins (i + 1) with
 | no k e =>
  have he := wbk9 h2;simp only [PE.bind, ofS1 _ _ he, xI0 _ _ he];exact ⟨trivial, he⟩
 | ok b =>
 simp only [PE.bind];rw [vM0];cases h3 : xd0 l [47] (i + 2) with
 | no k e =>
  have he := zy0 h3;simp only [PE.bind, ofS1 _ _ he, xI0 _ _ he];exact ⟨trivial, he⟩
 | ok b =>
 simp only [PE.bind];rw [ofS0];cases h4 : ofM l outs (i + 3) with
 | no k e =>
  have he := wbk9 h4;simp only [PE.bind, ofS1 _ _ he, xI0 _ _ he];exact ⟨trivial, he⟩
 | ok b =>
 simp only [PE.bind];rw [vM0];cases h5 : xd0 l [45, 62] (i + 4) with
 | no k e =>
  have he := zy0 h5;simp only [PE.bind, ofS1 _ _ he, xI0 _ _ he];exact ⟨trivial, he⟩
 | ok b =>
 simp only [PE.bind];rw [ofS0];cases h6 : ofM l sts (i + 5) with
 | no k e =>
  have he := wbk9 h6;simp only [PE.bind, ofS1 _ _ he, xI0 _ _ he];exact ⟨trivial, he⟩
 | ok b =>
 simp only [PE.bind];rw [vM0];cases h7 : xd0 l [59] (i + 6) with
 | no k e => exact ⟨rfl, zy0 h7⟩
 | ok b => rfl
def edS (l : List Tk) (ins outs sts : List Bs) : Nat → ER → RS → ER × RS
 | 0, R, r => (R, r)
 | f + 1, R, r => if r.2 = 0 ∧ (r.1 = l.length ∨ (l.getD r.1 tk0).t ≠ kEnd) then
   if (zae9 l ins outs sts r).1.2 = 0 then
    if 0 ≤ (getE R (zae9 l ins outs sts r).2.1 (zae9 l ins outs sts r).2.2.1).1 then edS l ins outs sts f R (r.1, 8)
    else edS l ins outs sts f (setE R (zae9 l ins outs sts r).2.1 (zae9 l ins outs sts r).2.2.1 (((zae9 l ins outs sts r).2.2.2.2 : Int), ((zae9 l ins outs sts r).2.2.2.1 : Int))) (zae9 l ins outs sts r).1
   else edS l ins outs sts f R (zae9 l ins outs sts r).1
  else (R, r)
theorem waW9 (l : List Tk) (ins outs sts : List Bs) (f : Nat) (R : ER) {k : Nat} {e : Int} (h : e ≠ 0) : edS l ins outs sts f R (k, e) = (R, (k, e)) := by
 cases f with
 | zero => rfl
 | succ f => rw [edS, if_neg (fun q => h q.1)]
def GE (R : ER) : Prop := ∀ s a, (getE R s a).1 = -1 ∨ 0 ≤ (getE R s a).1
theorem xdO9 {R : ER} (h : GE R) (s a : Nat) (e : Int × Int) (he : 0 ≤ e.1) : GE (setE R s a e) := fun s' a' => by
 unfold getE setE;rw [l'b (l := R.set _ _), n'e];by_cases q : s = s'
 ·subst q;rw [if_pos rfl];split
  ·rw [Option.getD_some, l'b, n'e];split
   ·split
    ·exact .inr he
    ·exact .inl rfl
   ·have := h s a';unfold getE at this;rw [← l'b]; exact this
  ·exact .inl rfl
 ·rw [if_neg q, ← l'b];exact h s' a'
theorem wdO9 (n k : Nat) : GE (List.replicate n (row0 k)) := fun s a => by
 left
 unfold getE row0;rw [l'b (l := List.replicate n _), n'A];split
 ·rw [Option.getD_some, l'b, n'A];split <;> rfl
 ·rfl
theorem vbk9 (l : List Tk) (ins outs sts : List Bs) : ∀ (f : Nat) (R : ER) (i : Nat), GE R → i ≤ l.length → l.length < f + i → match kj0 l ins outs sts f R i with|.ok q => edS l ins outs sts f R (i, 0) = (q.1, (q.2, 0))|.no k e => (edS l ins outs sts f R (i, 0)).2 = (k, e) ∧ e ≠ 0
 | 0, R, i, _, h1, h2 => absurd h2 (by omega)
 | f + 1, R, i, hg, h1, h2 => by
  rw [kj0, edS];by_cases hend : zab9 l i = true
  ·rw [if_pos hend];unfold zab9 at hend;rw [l'a, decide_eq_true_eq, decide_eq_true_eq] at hend;simp only;rw [if_neg (by rintro ⟨_, q|q⟩; exact absurd q (by omega); exact q hend.2)]
  rw [if_neg hend];have hc : (i = l.length ∨ (l.getD i tk0).t ≠ kEnd) := by
   by_cases q : i = l.length
   ·exact .inl q
   ·refine .inr fun q2 => hend ?_;unfold zab9;rw [decide_eq_true q2, decide_eq_true (show i < l.length by omega)]; rfl
  rw [if_pos ⟨rfl, hc⟩];have he := wcy9 l ins outs sts i;cases hm : vI0 l ins outs sts i with
  | no k e =>
   rw [hm] at he;simp only at he;simp only [PE.bind];have h3 : (zae9 l ins outs sts (i, 0)).1.2 ≠ 0 := by rw [he.1]; exact he.2
   rw [if_neg h3, he.1, waW9 _ _ _ _ _ _ he.2];exact ⟨rfl, he.2⟩
  | ok q =>
   rw [hm] at he;simp only at he;rw [he];simp only [PE.bind];rw [if_pos trivial];have hlt : i + 7 ≤ l.length := by
    obtain ⟨_, _, _, _, _, _, h7⟩ := qP0 (s := q.1) (a := q.2.1) (o := q.2.2.1) (t := q.2.2.2) hm;have := vm0 h7;omega
   rcases hg q.1 q.2.1 with h4|h4
   ·rw [if_pos h4, if_neg (by omega)];exact vbk9 l ins outs sts f _ (i + 7) (xdO9 hg _ _ _ (by simp)) hlt (by omega)
   ·rw [if_neg (by omega), if_pos h4, waW9 _ _ _ _ _ _ (by decide)];exact ⟨rfl, by decide⟩
section
variable (l : List Tk)
def rdN : RS × Bs := qap9 l (zh0 l kMac (0, 0))
def rdI : RS × List Bs := xB0 l kIns 16 (zh0 l [59] (rdN l).1)
def rdO : RS × List Bs := xB0 l kk0 16 (rdI l).1
def rdQ : RS × List Bs := xB0 l kSts 64 (rdO l).1
def rdE : ER × RS := edS l (rdI l).2 (rdO l).2 (rdQ l).2 (l.length + 1) (List.replicate (rdQ l).2.length (row0 (rdI l).2.length)) (rdQ l).1
def rdT : RS := zh0 l [59] (zh0 l kEnd (rdE l).2)
def rdF : RS := if (rdT l).2 = 0 ∧ (rdT l).1 < l.length then ((rdT l).1, 4) else rdT l
theorem vdO9 : match kx0 l with|.ok n => zh0 l [59] (rdN l).1 = (3, 0) ∧ (rdN l).2 = n|.no k e => zh0 l [59] (rdN l).1 = (k, e) ∧ e ≠ 0 := by
 unfold kx0 rdN;rw [vM0];cases h1 : xd0 l kMac 0 with
 | no k e =>
  have he := zy0 h1;simp only [PE.bind, zde9 _ he, xI0 _ _ he];exact ⟨trivial, he⟩
 | ok a =>
 simp only [PE.bind];rw [qde9];cases h2 : wh0 l 1 with
 | no k e =>
  have he := qQ0 h2;simp only [PE.bind, xI0 _ _ he];exact ⟨trivial, he⟩
 | ok n =>
 simp only [PE.bind];rw [vM0];cases h3 : xd0 l [59] 2 with
 | no k e => exact ⟨rfl, zy0 h3⟩
 | ok b => exact ⟨rfl, rfl⟩
theorem kdO9 : match (kx0 l).bind fun n => (ko0 l).bind fun p => PE.ok (n, p) with|.ok q => (rdN l).2 = q.1 ∧ (rdI l).2 = q.2.1 ∧ (rdO l).2 = q.2.2.1 ∧ rdQ l = ((q.2.2.2.2, 0), q.2.2.2.1)|.no k e => (rdQ l).1 = (k, e) ∧ e ≠ 0 := by
 have hN := vdO9 l;cases h0 : kx0 l with
 | no k e =>
  rw [h0] at hN;simp only at hN;simp only [PE.bind];unfold rdQ rdO rdI;rw [hN.1];simp only [zcy9 _ _ _ hN.2];exact ⟨trivial, hN.2⟩
 | ok n =>
 rw [h0] at hN;simp only at hN;unfold ko0;simp only [PE.bind];have h1 := xaW9 l kIns 16 3;unfold rdQ rdO rdI;rw [hN.1, hN.2];cases e1 : ql0 l kIns 16 3 with
 | no k e =>
  rw [e1] at h1;simp only at h1;simp only [PE.bind, h1.1, zcy9 _ _ _ h1.2];exact ⟨trivial, h1.2⟩
 | ok p =>
 rw [e1] at h1;simp only at h1;rw [h1];simp only [PE.bind];have h2 := xaW9 l kk0 16 p.2;cases e2 : ql0 l kk0 16 p.2 with
 | no k e =>
  rw [e2] at h2;simp only at h2;simp only [PE.bind, h2.1, zcy9 _ _ _ h2.2];exact ⟨trivial, h2.2⟩
 | ok q =>
 rw [e2] at h2;simp only at h2;rw [h2];simp only [PE.bind];have h3 := xaW9 l kSts 64 q.2;cases e3 : ql0 l kSts 64 q.2 with
 | no k e =>
  rw [e3] at h3;exact h3
 | ok r =>
 rw [e3] at h3;simp only at h3;exact ⟨rfl, rfl, rfl, h3⟩
theorem wde9 : match xh0 l with|.ok p => (rdF l).2 = 0 ∧ p = ⟨(rdN l).2, (rdI l).2, (rdO l).2, (rdQ l).2, (rdE l).1⟩|.no k e => rdF l = (k, e) ∧ e ≠ 0 := by
 have hQ := kdO9 l;have herr : ∀ {k : Nat} {e : Int}, (rdE l).2 = (k, e) → e ≠ 0 → rdF l = (k, e) ∧ e ≠ 0 := fun h he => by
  unfold rdF rdT;rw [h, xI0 _ _ he, xI0 _ _ he, if_neg (fun q => he q.1)];exact ⟨rfl, he⟩
 have hq : ∀ {k : Nat} {e : Int}, (rdQ l).1 = (k, e) → e ≠ 0 → rdF l = (k, e) ∧ e ≠ 0 := fun h he => by
  refine herr ?_ he;unfold rdE;rw [h, waW9 _ _ _ _ _ _ he]
 unfold xh0;cases h0 : kx0 l with
 | no k e => rw [h0] at hQ; exact hq hQ.1 hQ.2
 | ok n =>
 rw [h0] at hQ;simp only [PE.bind] at hQ ⊢;cases h1 : ko0 l with
 | no k e => rw [h1] at hQ; exact hq hQ.1 hQ.2
 | ok p =>
 rw [h1] at hQ;simp only at hQ ⊢;obtain ⟨q1, q2, q3, q4⟩ := hQ;obtain ⟨I, O, Q, i⟩ := p;simp only at q1 q2 q3 q4 ⊢;have hl := (vac9 h1).2.2.2;have hE := vbk9 l I O Q (l.length + 1) (List.replicate Q.length (row0 I.length)) i (wdO9 _ _) hl (by omega);have hrd : rdE l = edS l I O Q (l.length + 1) (List.replicate Q.length (row0 I.length)) (i, 0) := by
  unfold rdE; rw [q2, q3, q4]
 rw [← hrd] at hE;cases h2 : kj0 l I O Q (l.length + 1) (List.replicate Q.length (row0 I.length)) i with
 | no k e => rw [h2] at hE; exact herr hE.1 hE.2
 | ok w =>
 rw [h2] at hE;obtain ⟨R, i2⟩ := w;simp only at hE ⊢;unfold xab9 rdF rdT;rw [hE, vM0];cases h3 : xd0 l kEnd i2 with
 | no k e =>
  have he := zy0 h3;simp only [PE.bind, xI0 _ _ he];rw [if_neg (fun q => he q.1)];exact ⟨rfl, he⟩
 | ok u =>
 simp only [PE.bind];rw [vM0];cases h4 : xd0 l [59] (i2 + 1) with
 | no k e =>
  have he := zy0 h4;simp only [PE.bind];rw [if_neg (fun q => he q.1)];exact ⟨rfl, he⟩
 | ok u =>
 simp only [PE.bind];by_cases h5 : i2 + 2 < l.length
 ·rw [if_pos h5, if_pos ⟨trivial, h5⟩];exact ⟨rfl, by decide⟩
 ·rw [if_neg h5, if_neg (fun q => h5 q.2)];refine ⟨rfl, ?_⟩;rw [q1, q2, q3, q4]
end
end Go.Proofs
