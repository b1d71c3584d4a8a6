import Derived.Test.YtcoakjnmnommpaaGreatDoorA10
import Derived.Test.YtcoakjnmnommpaaGreatDoorA12
namespace Go.Proofs
open Go Go.V
set_option linter.unusedVariables false
set_option linter.unusedSimpArgs false
set_option maxHeartbeats 0
def intN (S : List Nat) : List Int := S.map fun t : Nat => (t : Int)
theorem kc0 (S : List Nat) : (intN S).length = S.length := by simp [intN]
theorem wP0 (S : List Nat) (k : Nat) (h : k < S.length) : (intN S).getD k 0 = (S.getD k 0 : Nat) := by simp [intN, h]
theorem zL0 (S : List Nat) (t : Nat) : intN (S ++ [t]) = intN S ++ [(t : Int)] := by simp [intN]
theorem wV0 {l : List Int} (h : ∀ x ∈ l, 0 ≤ x) : intN (natL l) = l := by
 rw [intN, natL, n'k];exact (l'L fun x hx => Int.toNat_of_nonneg (h x hx)).trans (List.map_id l)
def qE0 (l : List RC) (S : List Nat) (a t : Nat) : List Nat := (List.range t).filter fun t => S.any fun s => (lstC l s a).1.contains (t : Int)
theorem qcn9 (l : List RC) (S : List Nat) (a t : Nat) : qE0 l S a (t + 1) = if (S.any fun s => (lstC l s a).1.contains (t : Int)) = true then qE0 l S a t ++ [t] else qE0 l S a t := by
 rw [qE0, l'Z, n'w, ← qE0];by_cases h : (S.any fun s => (lstC l s a).1.contains (t : Int)) = true
 ·rw [if_pos h]; congr 1; simp only [n'H, h, if_pos, List.filter_nil]
 ·rw [if_neg h];have h2 : (S.any fun s => (lstC l s a).1.contains (t : Int)) = false := by simpa using h
  simp only [n'H, h2, List.filter_nil];simp
theorem wcK9 (l : List RC) (S : List Nat) (a t : Nat) : (qE0 l S a t).length ≤ t := by
 have := n'a (fun t : Nat => S.any fun s => (lstC l s a).1.contains (t : Int)) (List.range t)
 rwa [n'p] at this
theorem vcK9 {A : Nat} {l : List RC} {st ac : List Int} (h : OkNv A (rowsV l) st ac) {S : List Nat} (hS : ∀ s ∈ S, s < l.length) {a : Nat} (ha : a < A) : qE0 l S a l.length = stepN (nfOf (rowsV l) st ac) S a := by
 unfold qE0 stepN;have e : (nfOf (rowsV l) st ac).n = l.length := wb0 l;rw [e];refine n'u fun t _ => ?_;rw [l'u, l'y, l'y];have key : ∀ s ∈ S, (lstC l s a).1.contains (t : Int) = (nfOf (rowsV l) st ac).d s a t := fun s hs => by
  show _ = (((rowsV l).getD s []).getD a []).contains (t : Int);rw [qL0 l s (hS s hs), kam9 _ a (by rw [h.row (hS s hs)]; exact ha)]; rfl
 constructor
 ·rintro ⟨s, hs, q⟩; exact ⟨s, hs, by rw [← key s hs]; exact q⟩
 ·rintro ⟨s, hs, q⟩; exact ⟨s, hs, by rw [key s hs]; exact q⟩
def anyK (l : List RC) (S : List Nat) (a t k : Nat) : Bool := (S.take k).any fun s => (lstC l s a).1.contains (t : Int)
theorem kcK9 (l : List RC) (S : List Nat) (a t k : Nat) (h : k < S.length) : anyK l S a t (k + 1) = (anyK l S a t k || (lstC l (S.getD k 0) a).1.contains (t : Int)) := by
 rw [anyK, xd0 S 0 k h, n'K, ← anyK]; simp
set_option maxRecDepth 100000 in
theorem qcL9 (sym : Int) (zr : Nat) (l : List RC) (c : Option Nat) (zs : Nat) (st : List Int) (cs : Option Nat) (za : Nat) (ac : List Int) (ca : Option Nat) (zf : Nat) (S : List Nat) (cf : Option Nat) (a : Nat)
  (hzr : l = [] ∨ zr = 1) (hzf : S = [] ∨ zf = 1) (hl : l.length ≤ 256) (hSl : S.length ≤ 1000) (ha : a < 256) (hp : ∀ s ∈ S, s < l.length ∧ a < (l.getD s ([], none)).1.length) (hi : ∀ s ∈ S, (lstC l s a).1.length ≤ 9223372036854775807) (hrl : ∀ s, s < l.length → (l.getD s ([], none)).1.length ≤ 1000) :
  PC Tryz.prog G0 48 [nA sym zr l c zs st cs za ac ca, .sl zf (ints (intN S)) cf, .int .i64 a] (.sl 1 (ints (intN (qE0 l S a l.length))) none) := by
 have hRl := vh0 l;have hg := fun s h => qq0 l s h;have hidR : ∀ q, idsE q (xe0 l) = true := fun q => ze0 _ _;have hFl : (ints (intN S)).length = S.length := by rw [xa0, kc0]
 have hFg : ∀ k, k < S.length → (ints (intN S)).getD k [] = [.int .i64 (S.getD k 0 : Nat)] := fun k hk => by
  rw [xc0 _ _ (by rw [kc0]; exact hk), wP0 S k hk]
 generalize ints (intN S) = FS at *;unfold nA;generalize xe0 l = RN at *;refine qc0 1 46 [.tmp 6] Tryz.func48 rfl rfl rfl (by simp) ?_;intro s ⟨a0, a1, a2, hz⟩;simp only [l'm, Nat.reduceAdd] at a1 a2;clear hz;repeat' (first|refine nv ?_|(with_reducible first|refine gG ?_ ?_|refine ⟨fun h => ?_, fun h => ?_⟩ <;> try omega|refine andG ?_)|simp (disch := try exact qa0) only [push_cast, simprocAttr, a0, a1, a2, hRl])
 refine go_loop rfl (fun mz s' H' => ∃ t : Nat, t ≤ l.length ∧ mz = l.length - t ∧ H' = [.row 4 29 [[.int .i64 sym, .sl zr RN c, .sl zs (ints st) cs, .sl za (ints ac) ca]], .row 1 3 (ints (intN (qE0 l S a t)))] ∧ s' 1 = .sl zf FS cf ∧ s' 2 = .int .i64 a ∧ s' 3 = .ptr 0 0 0 1 ∧ s' 7 = .own 1 (qE0 l S a t).length (qE0 l S a t).length none ∧ s' 8 = .int .i64 t) (m := l.length) (by first|exact va0|fail) (zN0 (t := 7) (sz := 1) (ty := 3) rfl) ⟨0, by omega, by omega, rfl, ?_⟩ ?_
 ·simp (disch := try exact qa0) only [push_cast, simprocAttr, a0, a1, a2, hRl];rfl
 ·rintro mz s' H' ⟨t, ht, rfl, rfl, b1, b2, b3, b7, b8⟩;have hll := wcK9 l S a t;have hml : (ints (intN (qE0 l S a t))).length = (qE0 l S a t).length := by rw [xa0, kc0]
  have et : (ints (intN (qE0 l S a t))).take (qE0 l S a t).length = ints (intN (qE0 l S a t)) := l'k (by omega);have ed : (ints (intN (qE0 l S a t))).drop ((qE0 l S a t).length + 1) = [] := l'z (by omega);rcases l'i t l.length with hlt|hge
  ·obtain rfl := hzr.resolve_left (by intro h; rw [h] at hlt; simp at hlt);have hsu := qcn9 l S a t;have hall : anyK l S a t S.length = S.any fun s => (lstC l s a).1.contains (t : Int) := by rw [anyK, l'x]
   have hsn := zy0 (intN (qE0 l S a t)) (t : Int);rw [← zL0] at hsn;repeat' (first|refine nv ?_|(with_reducible first|refine gG ?_ ?_|refine ⟨fun h => ?_, fun h => ?_⟩ <;> try omega|refine andG ?_)|simp (disch := try exact qa0) only [push_cast, simprocAttr, b1, b2, b3, b7, b8, hRl])
   refine go_loop rfl (fun mz s' H' => ∃ k : Nat, k ≤ S.length ∧ mz = S.length - k ∧ H' = [.row 4 29 [[.int .i64 sym, .sl 1 RN c, .sl zs (ints st) cs, .sl za (ints ac) ca]], .row 1 3 (ints (intN (qE0 l S a t)))] ∧ s' 1 = .sl zf FS cf ∧ s' 2 = .int .i64 a ∧ s' 3 = .ptr 0 0 0 1 ∧ s' 7 = .own 1 (qE0 l S a t).length (qE0 l S a t).length none ∧ s' 8 = .int .i64 t ∧ s' 9 = .int .i64 (if anyK l S a t k = true then 1 else 0) ∧ s' 10 = .int .i64 k) (m := S.length) (by first|exact va0|fail) (Weak.refl _ _) ⟨0, by omega, by omega, rfl, ?_⟩ ?_
   ·simp (disch := try exact qa0) only [push_cast, simprocAttr, b1, b2, b3, b7, b8, hRl];simp [anyK]
   ·rintro mz s' H' ⟨k, hk, rfl, rfl, b1, b2, b3, b7, b8, b9, b10⟩;rcases l'i k S.length with hltk|hgek
    ·obtain rfl := hzf.resolve_left (by intro h; rw [h] at hltk; simp at hltk);have hFk := hFg k hltk;have hsk := kcK9 l S a t k hltk;have hm : S.getD k 0 ∈ S := wc0 hltk;obtain ⟨hn, ha2⟩ := hp _ hm;have hi1 := hi _ hm;have e1 := hg _ hn;have hrl1 := hrl _ hn;have e2 := xg0 (l.getD (S.getD k 0) ([], none)).1 a ha2;have hlc : (l.getD (S.getD k 0) ([], none)).1.getD a ([], none) = lstC l (S.getD k 0) a := rfl;rw [hlc] at e2;have hh := xej9 1 (lstC l (S.getD k 0) a).1 (lstC l (S.getD k 0) a).2 t (.inr rfl) hi1;generalize lstC l (S.getD k 0) a = x at *;generalize l.getD (S.getD k 0) ([], none) = r at *;generalize S.getD k 0 = n at *;have hrl2 := zb0 r.1;have hidx : ∀ q, idsE q (ints x.1) = true := fun q => wa0 _ _;unfold rC at e1;unfold lC at e2;generalize x.1.contains (t : Int) = bc at *;generalize anyK l S a t k = bk at *;cases bc <;> cases bk <;> simp only [↓reduceIte, if_true, if_false, l'Y] at hh b9
     all_goals (repeat' (first|refine nv ?_|(with_reducible first|refine gG ?_ ?_|refine ⟨fun h => ?_, fun h => ?_⟩ <;> try omega|refine andG ?_)|refine cp_ hh ?_|simp (disch := try exact qa0) only [push_cast, simprocAttr, b1, b2, b3, b7, b8, b9, b10, hRl, e1, e2, hrl2, hFl, hFk]))
     all_goals refine za0 (S.length - (k + 1)) (by omega) (by first|exact va0|fail) ⟨k + 1, by omega, rfl, rfl, ?_⟩
     all_goals rw [hsk]
     all_goals simp (disch := try exact qa0) only [push_cast, simprocAttr, b1, b2, b3, b7, b8, b9, b10, hRl, e1, e2, hrl2, hFl, hFk]
     all_goals rfl
    ·obtain rfl : k = S.length := by omega
     rw [hall] at b9;cases hb : (S.any fun s => (lstC l s a).1.contains (t : Int)) with
     | true =>
      rw [hb, if_pos rfl] at b9;rw [hb, if_pos rfl] at hsu;repeat' (first|refine nv ?_|(with_reducible first|refine gG ?_ ?_|refine ⟨fun h => ?_, fun h => ?_⟩ <;> try omega|refine andG ?_)|simp (disch := try exact qa0) only [push_cast, simprocAttr, b1, b2, b3, b7, b8, b9, b10, hFl, hml, et, ed])
      refine za0 (l.length - (t + 1)) (by omega) (by first|exact va0|fail) ⟨t + 1, by omega, rfl, by rw [hsu, ← hsn], ?_⟩;rw [hsu];simp (disch := try exact qa0) only [push_cast, simprocAttr, b1, b2, b3, b7, b8, b9, b10, hFl, hml, et, ed]
     | false =>
      rw [hb, if_neg (by simp)] at b9;rw [hb, if_neg (by simp)] at hsu;repeat' (first|refine nv ?_|(with_reducible first|refine gG ?_ ?_|refine ⟨fun h => ?_, fun h => ?_⟩ <;> try omega|refine andG ?_)|simp (disch := try exact qa0) only [push_cast, simprocAttr, b1, b2, b3, b7, b8, b9, b10, hFl, hml, et, ed])
      refine za0 (l.length - (t + 1)) (by omega) (by first|exact va0|fail) ⟨t + 1, by omega, rfl, by rw [hsu], ?_⟩;rw [hsu];simp (disch := try exact qa0) only [push_cast, simprocAttr, b1, b2, b3, b7, b8, b9, b10, hFl, hml, et, ed]
  ·obtain rfl : t = l.length := by omega
   repeat' (first|refine nv ?_|(with_reducible first|refine gG ?_ ?_|refine ⟨fun h => ?_, fun h => ?_⟩ <;> try omega|refine andG ?_)|simp (disch := try exact qa0) only [push_cast, simprocAttr, b1, b2, b3, b7, b8, hRl, hml, et])
theorem zcL9 (x : Nf) (S : List Nat) (a : Nat) : (stepN x S a).length ≤ x.n := by
 have := n'a (fun t : Nat => S.any fun s => x.d s a t) (List.range x.n);rw [n'p] at this;exact this
theorem wdm9 (x : Nf) (S : List Nat) (a : Nat) : ∀ t ∈ stepN x S a, t < x.n := fun t ht => ((vU0 x S a t).1 ht).1
theorem zcn9 {A : Nat} {zr : Nat} {l : List RC} {c : Option Nat} {zs : Nat} {st : List Int} {cs : Option Nat} {za : Nat} {ac : List Int} {ca : Option Nat} (hzr : l = [] ∨ zr = 1) (h : OkNv A (rowsV l) st ac) (hi : ∀ s a, s < l.length → a < A → (lstC l s a).1.length ≤ 9223372036854775807) {zf : Nat} {S : List Nat} {cf : Option Nat} (hzf : S = [] ∨ zf = 1) (hS : ∀ s ∈ S, s < l.length) (hSl : S.length ≤ 1000) {a : Nat} (ha : a < A) :
  PC Tryz.prog G0 48 [nA A zr l c zs st cs za ac ca, .sl zf (ints (intN S)) cf, .int .i64 a] (.sl 1 (ints (intN (stepN (nfOf (rowsV l) st ac) S a))) none) := by
 have hn := h.n;have ha2 := h.a2;rw [wb0] at hn;rw [← vcK9 h hS ha];exact qcL9 A zr l c zs st cs za ac ca zf S cf a hzr hzf hn hSl (by omega) (fun s hs => ⟨hS s hs, by rw [h.row (hS s hs)]; exact ha⟩) (fun s hs => hi s a (hS s hs) ha) (fun s hs => by rw [h.row hs]; omega)
theorem xdQ9 {x : Nf} {S : List Nat} {k : Nat} (hk : k < S.length) (h : x.F.contains (S.getD k 0) = true) : accN x S = true := by
 rw [accN, l'y]; exact ⟨_, wc0 hk, h⟩
theorem vdm9 {x : Nf} {S : List Nat} (h : ∀ k, k < S.length → x.F.contains (S.getD k 0) = false) : accN x S = false := by
 rw [accN, z'j];intro s hs;obtain ⟨k, hk, rfl⟩ := l'G hs;have := h k hk;rw [l'b, l'e hk] at this;simpa using this
theorem xbW9 {l : List Int} (h : ∀ x ∈ l, 0 ≤ x) (n : Nat) : (natL l).contains n = l.contains (n : Int) := by
 rw [l'u, l'h, l'h, natL, l'B];constructor
 ·rintro ⟨x, hx, rfl⟩;have := h x hx
  rwa [show ((x.toNat : Nat) : Int) = x by omega]
 ·exact fun q => ⟨_, q, Int.toNat_natCast n⟩
set_option maxRecDepth 100000 in
theorem xaL9 (A : Nat) (zr : Nat) (l : List RC) (c : Option Nat) (zs : Nat) (st : List Int) (cs : Option Nat) (za : Nat) (ac : List Int) (ca : Option Nat) (hsz : SizeN zr l zs st za ac) (hok : OkNv A (rowsV l) st ac) (zw : Nat) (w : List Int) (cw : Option Nat) (hzw : w = [] ∨ zw = 1) (hwl : w.length ≤ 256) (hwr : ∀ x ∈ w, 0 ≤ x ∧ x < A) :
  PC Tryz.prog G0 16 [nA A zr l c zs st cs za ac ca, .sl zw (ints w) cw] (.int .i64 (if xbJ9 (nfOf (rowsV l) st ac) (natL w) = true then 1 else 0)) := by
 have hidR : ∀ p, idsE p (xe0 l) = true := fun p => ze0 _ _;have hidS : ∀ p, idsE p (ints st) = true := fun p => wa0 _ _;have hidA : ∀ p, idsE p (ints ac) = true := fun p => wa0 _ _;have hidW : ∀ p, idsE p (ints w) = true := fun p => wa0 _ _;have hn := hok.n;have hst := hok.st;have hac := hok.ac;rw [wb0] at hn hst hac;have hst0 : intN (natL st) = st := wV0 fun x hx => (qf0 hst x hx).1;have hS0 : ∀ s ∈ natL st, s < l.length := fun s hs => (xaK9 hst).lt hs;have hS0l : (natL st).length ≤ 1000 := by
  rw [kU0 hst];have := n'a (fun t : Nat => st.contains (t : Int)) (List.range l.length);rw [n'p] at this; omega
 have hi : ∀ s a, s < l.length → a < A → (lstC l s a).1.length ≤ 9223372036854775807 := fun s a hs ha => hsz.bi s a hs (by rw [hok.row hs]; exact ha);have hN : (nfOf (rowsV l) st ac).n = l.length := wb0 l;have hrun : ∀ k, (∀ s ∈ runX (stepN (nfOf (rowsV l) st ac)) (natL st) (natL (w.take k)), s < l.length) ∧ (runX (stepN (nfOf (rowsV l) st ac)) (natL st) (natL (w.take k))).length ≤ 1000 := by
  have : ∀ (v : List Nat) (S : List Nat), (∀ s ∈ S, s < l.length) → S.length ≤ 1000 → (∀ s ∈ runX (stepN (nfOf (rowsV l) st ac)) S v, s < l.length) ∧ (runX (stepN (nfOf (rowsV l) st ac)) S v).length ≤ 1000 := by
   intro v;induction v with
   | nil => exact fun S h1 h2 => ⟨h1, h2⟩
   | cons a v ih => exact fun S h1 h2 => ih _ (fun s hs => by have := wdm9 _ _ _ s hs; rwa [hN] at this) (by have := zcL9 (nfOf (rowsV l) st ac) S a; omega)
  exact fun k => this _ _ hS0 hS0l
 have hstep : ∀ k zf cf, k < w.length → (runX (stepN (nfOf (rowsV l) st ac)) (natL st) (natL (w.take k)) = [] ∨ zf = 1) → PC Tryz.prog G0 48 [nA A zr l c zs st cs za ac ca, .sl zf (ints (intN (runX (stepN (nfOf (rowsV l) st ac)) (natL st) (natL (w.take k))))) cf, .int .i64 (w.getD k 0)] (.sl 1 (ints (intN (runX (stepN (nfOf (rowsV l) st ac)) (natL st) (natL (w.take (k + 1)))))) none) := fun k zf cf hk hzf => by
  have hx := hwr _ (wc0 (d := 0) hk);have hz := zcn9 (c := c) (zs := zs) (cs := cs) (za := za) (ca := ca) (cf := cf) hsz.zl hok hi hzf (hrun k).1 (hrun k).2 (a := (w.getD k 0).toNat) (by omega);rw [show (((w.getD k 0).toNat : Nat) : Int) = w.getD k 0 by omega] at hz;have e : natL (w.take (k + 1)) = natL (w.take k) ++ [(w.getD k 0).toNat] := by rw [natL, xm0 Int.toNat w 0 k hk]; rfl
  rw [e, waz9];exact hz
 have hP0 : runX (stepN (nfOf (rowsV l) st ac)) (natL st) (natL (w.take 0)) = natL st := rfl;have hlang : xbJ9 (nfOf (rowsV l) st ac) (natL w) = accN (nfOf (rowsV l) st ac) (runX (stepN (nfOf (rowsV l) st ac)) (natL st) (natL (w.take w.length))) := by rw [l'x]; rfl
 rw [hlang];have hF : (nfOf (rowsV l) st ac).F = natL ac := rfl;have hhit := fun S k => xdQ9 (x := nfOf (rowsV l) st ac) (S := S) (k := k);have hnon := fun S => vdm9 (x := nfOf (rowsV l) st ac) (S := S);have hcon := fun n => xbW9 (l := ac) (fun x hx => (qf0 hac x hx).1) n;simp only [hF, hcon] at hhit hnon;have hhas := fun n => xej9 za ac ca n hsz.zac hsz.bac;have hil := xa0 w;have e1 := xc0 w;generalize hSt : (fun k => runX (stepN (nfOf (rowsV l) st ac)) (natL st) (natL (w.take k))) = S at *;have hS : ∀ k, runX (stepN (nfOf (rowsV l) st ac)) (natL st) (natL (w.take k)) = S k := fun k => by rw [← hSt]
 simp only [hS] at hrun hstep hP0 ⊢;unfold nA at *;generalize xe0 l = RN at *;have hidF : ∀ k p, idsE p (ints (intN (S k))) = true := fun k p => wa0 _ _;refine qc0 0 37 [.tmp 4] Tryz.func16 rfl rfl rfl (by simp) ?_;intro s ⟨a0, a1, hz⟩;simp only [l'm, Nat.reduceAdd] at a1;clear hz;repeat' (first|refine nv ?_|(with_reducible first|refine gG ?_ ?_|refine ⟨fun h => ?_, fun h => ?_⟩ <;> try omega|refine andG ?_)|simp (disch := try exact qa0) only [push_cast, simprocAttr, a0, a1])
 refine go_loop rfl (fun mz s' H' => ∃ (k zf : Nat) (cf : Option Nat), k ≤ w.length ∧ mz = w.length - k ∧ (S k = [] ∨ zf = 1) ∧ H' = [.row 4 29 [[.int .i64 A, .sl zr RN c, .sl zs (ints st) cs, .sl za (ints ac) ca]]] ∧ s' 1 = .sl zw (ints w) cw ∧ s' 2 = .ptr 0 0 0 1 ∧ s' 5 = .sl zf (ints (intN (S k))) cf ∧ s' 6 = .int .i64 k) (m := w.length) (by first|exact va0|fail) (Weak.refl _ _) ⟨0, zs, cs, by omega, by omega, by rw [hP0]; exact hsz.zst.imp (fun h => by rw [h]; rfl) id, rfl, ?_⟩ ?_
 ·rw [hP0, hst0];simp (disch := try exact qa0) only [push_cast, simprocAttr, a0, a1]
 ·rintro mz s' H' ⟨k, zf, cf, hk, rfl, hzf, rfl, b1, b2, b5, b6⟩;rcases l'i k w.length with hlt|hge
  ·obtain rfl := hzw.resolve_left (by intro h; rw [h] at hlt; simp at hlt);have e1 := e1 k hlt;have hstk := hstep k zf cf hlt hzf;generalize w.getD k 0 = x at *;repeat' (first|refine nv ?_|(with_reducible first|refine gG ?_ ?_|refine ⟨fun h => ?_, fun h => ?_⟩ <;> try omega|refine andG ?_)|refine cp_ hstk ?_ (hi := by (simp [idsL, idsE, AV.ids, hidR, hidS, hidA, hidW, hidF]))|simp (disch := try exact qa0) only [push_cast, simprocAttr, b1, b2, b5, b6, e1, hil])
   refine za0 (w.length - (k + 1)) (by omega) (by first|exact va0|fail) ⟨k + 1, 1, none, by omega, rfl, .inr rfl, rfl, ?_⟩;simp (disch := try exact qa0) only [push_cast, simprocAttr, b1, b2, b5, b6, e1, hil]
  ·obtain rfl : k = w.length := by omega
   have hFl : (ints (intN (S w.length))).length = (S w.length).length := by rw [xa0, kc0]
   have hFg : ∀ k, k < (S w.length).length → (ints (intN (S w.length))).getD k [] = [.int .i64 ((S w.length).getD k 0 : Nat)] := fun k hk => by
    rw [xc0 _ _ (by rw [kc0]; exact hk), wP0 _ k hk]
   have hhit := hhit (S w.length);have hnon := hnon (S w.length);have hSl := (hrun w.length).2;generalize ints (intN (S w.length)) = FS at *;generalize accN (nfOf (rowsV l) st ac) (S w.length) = R at *;generalize S w.length = T at *;repeat' (first|refine nv ?_|(with_reducible first|refine gG ?_ ?_|refine ⟨fun h => ?_, fun h => ?_⟩ <;> try omega|refine andG ?_)|simp (disch := try exact qa0) only [push_cast, simprocAttr, b1, b2, b5, b6, hil])
   refine go_loop rfl (fun mz s' H' => ∃ k : Nat, k ≤ T.length ∧ mz = T.length - k ∧ H' = [.row 4 29 [[.int .i64 A, .sl zr RN c, .sl zs (ints st) cs, .sl za (ints ac) ca]]] ∧ s' 2 = .ptr 0 0 0 1 ∧ s' 5 = .sl zf FS cf ∧ s' 7 = .int .i64 k ∧ (∀ j, j < k → ac.contains ((T.getD j 0 : Nat) : Int) = false)) (m := T.length) (by first|exact va0|fail) (Weak.refl _ _) ⟨0, by omega, by omega, rfl, ?_⟩ ?_
   ·refine ⟨?_, ?_, ?_, fun j hj => by omega⟩;all_goals simp (disch := try exact qa0) only [push_cast, simprocAttr, b1, b2, b5, b6, hil]
   ·rintro mz s' H' ⟨k, hk, rfl, rfl, b2, b5, b7, ik⟩;rcases l'i k T.length with hlt2|hge2
    ·obtain rfl := hzf.resolve_left (by intro h; rw [h] at hlt2; simp at hlt2);have hFk := hFg k hlt2;have hh := hhas (T.getD k 0 : Nat);have hhitk := hhit k hlt2;have hsn := kaf9 (P := fun j => ac.contains ((T.getD j 0 : Nat) : Int) = false) (k := k) ik;generalize T.getD k 0 = n at *;cases hc : ac.contains (n : Int) with
     | true =>
      rw [hc] at hh;rw [hhitk hc];repeat' (first|refine nv ?_|(with_reducible first|refine gG ?_ ?_|refine ⟨fun h => ?_, fun h => ?_⟩ <;> try omega|refine andG ?_)|refine cp_ hh ?_ (hi := by (simp [idsL, idsE, AV.ids, hidR, hidS, hidA, hidW, hidF]))|simp (disch := try exact qa0) only [push_cast, simprocAttr, b2, b5, b7, hFl, hFk])
     | false =>
      rw [hc] at hh;have hsn2 := hsn hc;repeat' (first|refine nv ?_|(with_reducible first|refine gG ?_ ?_|refine ⟨fun h => ?_, fun h => ?_⟩ <;> try omega|refine andG ?_)|refine cp_ hh ?_ (hi := by (simp [idsL, idsE, AV.ids, hidR, hidS, hidA, hidW, hidF]))|simp (disch := try exact qa0) only [push_cast, simprocAttr, b2, b5, b7, hFl, hFk])
      refine za0 (T.length - (k + 1)) (by omega) (by first|exact va0|fail) ⟨k + 1, by omega, rfl, rfl, ?_, ?_, ?_, hsn2⟩;all_goals simp (disch := try exact qa0) only [push_cast, simprocAttr, b2, b5, b7, hFl, hFk]
    ·obtain rfl : k = T.length := by omega
     rw [hnon ik];repeat' (first|refine nv ?_|(with_reducible first|refine gG ?_ ?_|refine ⟨fun h => ?_, fun h => ?_⟩ <;> try omega|refine andG ?_)|simp (disch := try exact qa0) only [push_cast, simprocAttr, b2, b5, b7, hFl])
def bitS (b m : Nat) : List Nat := (List.range m).filter fun s => b.testBit s
def wrdN (w : List Nat) (A : Nat) : List Nat := (w.take 40).map fun x => x % A
def u8s (w : List Nat) : List (List AV) := w.map fun x => [.int .u8 (x : Nat)]
end Go.Proofs
