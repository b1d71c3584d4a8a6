import Derived.Test.YtcoakjnmnommpaaGreatDoorA24
import Derived.Test.YtcoakjnmnommpaaGreatDoorA12
import Derived.Test.YtcoakjnmnommpaaGreatDoorAR3
import Derived.Test.YtcoakjnmnommpaaGreatDoorV51
namespace Go.Proofs
open Go Go.V
set_option linter.unusedVariables false
set_option linter.unusedSimpArgs false
set_option maxHeartbeats 0
def dlt (l : List LC) (s a : Nat) : Nat := ((vl0 l).getD s []).getD a 0
theorem wbX9 {l : List LC} {s a : Nat} (hs : s < l.length) (ha : a < (l.getD s ([], none)).1.length) : dlt l s a = ((l.getD s ([], none)).1.getD a 0).toNat := waa9 l s a hs ha
theorem xcN9 {A : Nat} {l : List LC} {m : Nat} (h : OkDv A (kd0 l) m) {s a : Nat} (hs : s < l.length) (ha : a < A) : dlt l s a < l.length := by
 rw [wbX9 hs (by rw [h.row hs]; exact ha)];have := h.at hs ha;omega
theorem zbk9 {A : Nat} {l : List LC} {m : Nat} (h : OkDv A (kd0 l) m) (e : Nat → Nat → Bool) (i : Nat) : ∀ s ∈ (stX (dlt l) e A 0 i).1, s < l.length := by
 have hn := h.n1;rw [ve0] at hn;exact zaf9 (dlt l) e A (P := fun s => s < l.length) 0 hn (fun s hs a ha => xcN9 h hs ha) i
theorem wan9 {A : Nat} {l : List LC} {m : Nat} (h : OkDv A (kd0 l) m) (e : Nat → Nat → Bool) (he : ∀ s, e s s = true) (i : Nat) : (stX (dlt l) e A 0 i).1.length ≤ l.length :=
 xaf9 (eqv := e) id l.length _ (zbk9 h e i) (fun s _ t _ q => by have : s = t := q; subst this; exact he s) (qK0 (dlt l) e A 0 i)
theorem wel9 (L : List Nat) (t : Nat) : setL (fun n => pS L n || inL [(t : Int)] n) = PS (L ++ [t]) := by
 have : (fun n => pS L n || inL [(t : Int)] n) = pS (L ++ [t]) := by
  funext n
  rw [l'u];simp [pS, inL, z'e]
 rw [this]; rfl
theorem wdR9 : PS [] = [.int .u64 0, .int .u64 0, .int .u64 0, .int .u64 0] := by
 rw [PS, ← zan9]; rfl
theorem wcN9 (L : List Nat) (t : Nat) (ht : t < 256) : ((List.range 256).any fun n => pS L n && inL [(t : Int)] n) = L.contains t := by
 rw [l'u, l'y];constructor
 ·rintro ⟨n, _, h⟩;simp [pS, inL, z'e] at h;obtain ⟨h1, rfl⟩ := h;simpa using h1
 ·intro h;exact ⟨t, l'o.2 ht, by simp [pS, inL] at h ⊢; exact h⟩
theorem vcN9 {L : List Nat} {t : Nat} (h : L.contains t = true) : addX eqX L t = L :=
 val9 ⟨t, l'h.1 h, kZ0 t⟩
theorem kcN9 {L : List Nat} {t : Nat} (h : L.contains t = false) : addX eqX L t = L ++ [t] :=
 wD0 (by
  rintro ⟨y, hy, e⟩;have : y = t := by simpa [eqX] using e
  subst this;rw [l'h.2 hy] at h; cases h)
theorem qcO9 (b : Nat) (H : List Blk) (L : List Nat) (t : Nat) (ht : t < 256) (hb : H[b]? = some (.row 4 68 [PS L])) :
  wd0 Tryz.prog G0 67 [.ptr b 0 0 1, .sl 1 [[.int .i64 (t : Nat)]] (some 1)] H (.tup []) (H.set b (.row 4 68 [PS (L ++ [t])])) := by
 have := qdP9 b 1 [(t : Int)] (some 1) H (pS L) (.inr rfl) (by simp) (fun x hx => by simp at hx; omega) hb;rw [wel9] at this;exact this
theorem xdB9 (t : Nat) (ht : t < 256) : PC Tryz.prog G0 41 [.sl 1 [[.int .i64 (t : Nat)]] (some 1)] (.agg (setL (inL [(t : Int)]))) :=
 of32 1 [(t : Int)] (some 1) (.inr rfl) (by simp) (fun x hx => by simp at hx; omega)
theorem zcO9 (L : List Nat) (t : Nat) (ht : t < 256) : PC Tryz.prog G0 40 [.agg (PS L), .agg (setL (inL [(t : Int)]))] (.bool (L.contains t)) := by
 have := xbK9 (pS L) (inL [(t : Int)]);rw [wcN9 L t ht] at this;exact this
set_option maxRecDepth 100000 in
theorem xcO9 (A : Nat) (l : List LC) (c : Option Nat) (ac : List Bool) (ca : Option Nat) (hok : OkDv A (kd0 l) ac.length) (N : Nat) (hN : (stX (dlt l) eqX A 0 N).1.length = N) :
  PC Tryz.prog G0 57 [dA A 1 l c 1 ac ca] (.sl 1 (ints (intN (stX (dlt l) eqX A 0 N).1)) none) := by
 have hidR : ∀ p, idsE p (rowL l) = true := fun p => vc0 _ _;have hidA : ∀ p, idsE p (qb0 ac) = true := fun p => zd0 _ _;have hn := hok.n;have hn1 := hok.n1;have hA := hok.a2;rw [ve0] at hn hn1;have hRl := zb0 l;have e1 := xg0 l;have hB := wan9 hok eqX kZ0;have hlt0 := zbk9 hok eqX;have hrow := fun s h => hok.row (s := s) h;have hdl := fun s a h ha => wbX9 (l := l) (s := s) (a := a) h ha;have hdlt := fun s a h ha => xcN9 hok (s := s) (a := a) h ha;have hp0 := qcO9 2 [.row 3 47 [[.int .i64 A, .sl 1 (rowL l) c, .sl 1 (qb0 ac) ca]], .row 1 3 [[.int .i64 0]], .row 4 68 [PS []]] [] 0 (by decide) rfl;rw [wdR9] at hp0;have hidP : ∀ L f, idsL f (PS L) = true := fun L f => vo0 _ _;unfold dA;generalize rowL l = RN at *;generalize qb0 ac = BA at *;generalize dlt l = δ at *;refine qc0 1 45 [.tmp 2] Tryz.func57 rfl rfl rfl (by simp) ?_;intro s ⟨a0, hz⟩;clear hz;repeat' (first|(refine g0_ ?_; with_reducible refine qcE9 [] (p := [0, 1]) rfl rfl ?_)|(refine a0_ ?_; refine vbI9 rfl ?_)|(first|(with_reducible refine xz0 (p := [0, 0, 1, 1, 1, 1]) ?_)|refine nav ?_|(refine g0_ ?_; first|refine goD ?_))|(with_reducible first|refine gG ?_ ?_|refine ⟨fun h => ?_, fun h => ?_⟩ <;> try omega|refine andG ?_)|refine cl_ hp0 ?_|simp (disch := try exact qa0) only [push_cast, simprocAttr, a0])
 refine Halt.mk ?_;repeat' (first|refine nv ?_|(with_reducible first|refine gG ?_ ?_|refine ⟨fun h => ?_, fun h => ?_⟩ <;> try omega|refine andG ?_)|simp (disch := try exact qa0) only [push_cast, simprocAttr, a0])
 refine go_loop rfl (fun mz s' H' => ∃ i : Nat, i ≤ (stX δ eqX A 0 i).1.length ∧ mz = 257 - i ∧ H' = [.row 3 47 [[.int .i64 A, .sl 1 RN c, .sl 1 BA ca]], .row 1 3 (ints (intN (stX δ eqX A 0 i).1)), .row 4 68 [PS (stX δ eqX A 0 i).1]] ∧ s' 1 = .ptr 0 0 0 1 ∧ s' 3 = .own 1 (stX δ eqX A 0 i).1.length (stX δ eqX A 0 i).1.length none ∧ s' 4 = .ptr 2 0 0 1 ∧ s' 5 = .int .i64 i) (m := 257) (by first|exact va0|fail) (Weak.refl _ _) ⟨0, by simp [stX], by omega, by rfl, ?_⟩ ?_
 ·simp (disch := try exact qa0) only [push_cast, simprocAttr, a0];simp [stX]
 ·rintro mz s' H' ⟨i, hi, rfl, rfl, b1, b3, b4, b5⟩;have hi256 := hB i;have hB1 := hB (i + 1);have hnx := vcM9 δ eqX A 0 0 i;have hend : i = (stX δ eqX A 0 i).1.length → N = i := fun h => kbx9 0 hN h.symm;have hlt0 := hlt0 i;generalize hnxt : stX δ eqX A 0 (i + 1) = NX at *;generalize hT : stX δ eqX A 0 i = T at *;obtain ⟨L, D⟩ := T;simp only at *;have hSl : (ints (intN L)).length = L.length := by rw [xa0, kc0]
  have hSi := kc0 L;rcases l'i i L.length with hlt|hge
  ·have hnx := hnx hlt;have hgL : (ints (intN L)).getD i [] = [.int .i64 (L.getD i 0 : Nat)] := by rw [xc0 _ _ (by rw [kc0]; exact hlt), wP0 _ _ hlt]
   have hs := hlt0 _ (wc0 (d := 0) hlt);generalize L.getD i 0 = s at *;have e1 := e1 s hs;have hrow := hrow s hs;have hdl := fun a => hdl s a hs;have hdlt := fun a => hdlt s a hs;have hnn0 := fun a ha => (hok.at hs (a := a) ha).1;generalize l.getD s ([], none) = r at *;have hrl := xa0 r.1;have e2 := xc0 r.1;unfold lC at e1;have hall := fun a ha => zaz9 δ eqX A (P := fun t => t < l.length) L s hlt0 (fun b hb => hdlt b hb) a ha;have hgrow : ∀ a, a ≤ A → (rowX δ eqX L s a).1.length ≤ 256 := fun a ha => by
    have hmono : ∀ d, (rowX δ eqX L s a).1.length ≤ (rowX δ eqX L s (a + d)).1.length := fun d => by
     induction d with
     | zero => exact l'f _
     | succ d ih => exact n'j ih (wbT9 eqX _ _)
    have := hmono (A - a);rw [n'L ha] at this;rw [hnx] at hB1;simp only at hB1;omega
   repeat' (first|refine nv ?_|(with_reducible first|refine gG ?_ ?_|refine ⟨fun h => ?_, fun h => ?_⟩ <;> try omega|refine andG ?_)|simp (disch := try exact qa0) only [push_cast, simprocAttr, b1, b3, b4, b5, hSl, hSi, hgL, hRl, e1, hrl])
   refine go_loop rfl (fun mz s' H' => ∃ a : Nat, a ≤ A ∧ mz = A - a ∧ H' = [.row 3 47 [[.int .i64 A, .sl 1 RN c, .sl 1 BA ca]], .row 1 3 (ints (intN (rowX δ eqX L s a).1)), .row 4 68 [PS (rowX δ eqX L s a).1]] ∧ s' 1 = .ptr 0 0 0 1 ∧ s' 3 = .own 1 (rowX δ eqX L s a).1.length (rowX δ eqX L s a).1.length none ∧ s' 4 = .ptr 2 0 0 1 ∧ s' 5 = .int .i64 i ∧ s' 24 = .sl 1 (ints r.1) r.2 ∧ s' 25 = .int .i64 A ∧ s' 26 = .int .i64 a) (m := A) (by first|exact va0|fail) (Weak.refl _ _) ⟨0, by omega, by omega, by rfl, ?_⟩ ?_
   ·rw [← hrow];simp (disch := try exact qa0) only [push_cast, simprocAttr, b1, b3, b4, b5, hSl, hSi, hgL, hRl, e1, hrl];simp [rowX]
   ·rintro mz s' H' ⟨a, ha, rfl, rfl, b1, b3, b4, b5, b24, b25, b26⟩;have hsucc : (rowX δ eqX L s (a + 1)).1 = addX eqX (rowX δ eqX L s a).1 (δ s a) := rfl;have hpre := xZ0 δ eqX L s a;have hg1 := hgrow a ha;have hg2 := fun h => hgrow (a + 1) h;have hfull : a = A → NX.1 = (rowX δ eqX L s a).1 := fun h => by rw [hnx, h]
    generalize hW1 : (rowX δ eqX L s (a + 1)).1 = W1 at *;generalize (rowX δ eqX L s a).1 = M at *;have hMl : (ints (intN M)).length = M.length := by rw [xa0, kc0]
    have hMi := kc0 M;have etM : (ints (intN M)).take M.length = ints (intN M) := l'k (by omega);have edM : (ints (intN M)).drop (M.length + 1) = [] := l'z (by omega);rcases l'i a A with hla|hga
    ·have e3 := e2 a (by omega);have hda := hdl a (by omega);have hto := hdlt a hla;have hnn : r.1.getD a 0 = (δ s a : Nat) := by
      have := hnn0 a hla;omega
     rw [hnn] at e3;generalize δ s a = tq at *;have hof := xdB9 tq (by omega);have hme := zcO9 M tq (by omega);cases hq : M.contains tq with
     | true =>
      rw [hq] at hme;rw [vcN9 hq] at hsucc;repeat' (first|refine nv ?_|(with_reducible first|refine gG ?_ ?_|refine ⟨fun h => ?_, fun h => ?_⟩ <;> try omega|refine andG ?_)|refine cp_ hof ?_ (hi := by (simp [idsL, idsE, AV.ids, hidR, hidA, hidP, xu0]))|refine cp_ hme ?_ (hi := by (simp [idsL, idsE, AV.ids, hidR, hidA, hidP, xu0]))|simp (disch := try exact qa0) only [push_cast, simprocAttr, b1, b3, b4, b5, b24, b25, b26, e3, hrl, hrow])
      refine za0 (A - (a + 1)) (by omega) (by first|exact va0|fail) ⟨a + 1, by omega, rfl, by rw [hW1, hsucc], ?_⟩;rw [hW1, hsucc];simp (disch := try exact qa0) only [push_cast, simprocAttr, b1, b3, b4, b5, b24, b25, b26, e3, hrl, hrow]
     | false =>
      rw [hq] at hme;rw [kcN9 hq] at hsucc;have hpu := qcO9 2 [.row 3 47 [[.int .i64 A, .sl 1 RN c, .sl 1 BA ca]], .row 1 3 (ints (intN M)), .row 4 68 [PS M]] M tq (by omega) rfl;have hsn := zy0 (intN M) (tq : Int);rw [← zL0] at hsn;repeat' (first|refine nv ?_|(with_reducible first|refine gG ?_ ?_|refine ⟨fun h => ?_, fun h => ?_⟩ <;> try omega|refine andG ?_)|refine cp_ hof ?_ (hi := by (simp [idsL, idsE, AV.ids, hidR, hidA, hidP, xu0]))|refine cp_ hme ?_ (hi := by (simp [idsL, idsE, AV.ids, hidR, hidA, hidP, xu0]))|refine cl_ hpu ?_|simp (disch := try exact qa0) only [push_cast, simprocAttr, b1, b3, b4, b5, b24, b25, b26, e3, hrl, hrow, hMl, hMi, etM, edM])
      refine za0 (A - (a + 1)) (by omega) (by first|exact va0|fail) ⟨a + 1, by omega, rfl, by rw [hW1, hsucc, ← hsn], ?_⟩;rw [hW1, hsucc];simp (disch := try exact qa0) only [push_cast, simprocAttr, b1, b3, b4, b5, b24, b25, b26, e3, hrl, hrow, hMl, hMi, etM, edM]
    ·obtain rfl : A = a := by omega
     have hfull := hfull rfl;have hiM : i + 1 ≤ M.length := by
      obtain ⟨E, hE⟩ := hpre;rw [hE]; simp; omega
     repeat' (first|refine nv ?_|(with_reducible first|refine gG ?_ ?_|refine ⟨fun h => ?_, fun h => ?_⟩ <;> try omega|refine andG ?_)|simp (disch := try exact qa0) only [push_cast, simprocAttr, b1, b3, b4, b5, b24, b25, b26, hrl, hrow])
     refine za0 (257 - (i + 1)) (by omega) (by first|exact va0|fail) ⟨i + 1, by rw [hnxt, hfull]; exact hiM, rfl, by rw [hnxt, hfull], ?_⟩;rw [hnxt, hfull];simp (disch := try exact qa0) only [push_cast, simprocAttr, b1, b3, b4, b5, b24, b25, b26, hrl, hrow]
  ·obtain rfl := hend (by omega);rw [hT];have etL : (ints (intN L)).take L.length = ints (intN L) := l'k (by omega);repeat' (first|refine nv ?_|(with_reducible first|refine gG ?_ ?_|refine ⟨fun h => ?_, fun h => ?_⟩ <;> try omega|refine andG ?_)|simp (disch := try exact qa0) only [push_cast, simprocAttr, b1, b3, b4, b5, hSl, hSi, etL])
def intF (f : Nat → Int) (n : Nat) : List (List AV) := ints ((List.range n).map f)
theorem vbX9 (f : Nat → Int) (n : Nat) : (intF f n).length = n := by rw [intF, xa0]; simp
theorem xbk9 (p : Nat → Bool) (f : Nat → Int) (n : Nat) : idsE p (intF f n) = true := wa0 _ _
theorem zaA9 (f : Nat → Int) (n k : Nat) (h : k < n) : (intF f n).getD k [] = [.int .i64 (f k)] := by rw [intF, xc0 _ _ (by simp; exact h)]; simp [h]
def updI (f : Nat → Int) (k : Nat) (v : Int) : Nat → Int := fun t => if t = k then v else f t
theorem zco9 {f g : Nat → Int} {n : Nat} (h : ∀ s, s < n → f s = g s) : intF f n = intF g n := by
 rw [intF, intF]; congr 1; exact l'L fun s hs => h s (l'o.1 hs)
theorem kbX9 (f : Nat → Int) (n k : Nat) (v : Int) : (intF f n).set k [.int .i64 v] = intF (updI f k v) n := by
 rw [intF, xbj9, intF];congr 1
 refine l'W (by simp) fun j h1 h2 => ?_;rw [z'J];simp only [z'r, z'c, updI];by_cases h : k = j
 ·rw [if_pos h, if_pos h.symm]
 ·rw [if_neg h, if_neg (fun q => h q.symm)]
theorem wcO9 (n : Nat) : List.replicate n [AV.int .i64 0] = intF (fun _ => 0) n := by
 rw [intF, wbj9]; congr 1;refine l'W (by simp) fun j h1 h2 => by simp
def bytM (w : List Nat) : List UInt8 := w.map UInt8.ofNat
def Small (w : List Nat) : Prop := ∀ x ∈ w, x < 256
theorem qbY9 {v w : List Nat} (hv : Small v) (hw : Small w) (h : bytM v = bytM w) : v = w := by
 have key : ∀ u : List Nat, Small u → (bytM u).map UInt8.toNat = u := fun u hu => by
  rw [bytM, n'k];refine (l'L fun x hx => ?_).trans (List.map_id u);show (UInt8.ofNat x).toNat = x;rw [z'w];exact l'U (hu x hx)
 rw [← key v hv, h, key w hw]
def kB (w : List UInt8) : AV := .str w
theorem kaa9 (x y : List UInt8) : qz0 (kB x) (kB y) = (x == y) := by
 simp only [kB, qz0, vcb9]
def mapB (l : List (List Nat)) : List (AV × AV) := xL0 kB 0 (l.map bytM)
theorem xbL9 (l : List (List Nat)) : (mapB l).length = l.length := by rw [mapB, vV0, l'w]
theorem zdo9 (p : Nat → Bool) (l : List (List Nat)) : ((mapB l).all fun x => AV.ids p x.1 && AV.ids p x.2) = true := vaL9 p (fun _ => rfl) _ 0
theorem xeC9 : eqTy Tryz.prog 8 9 = true := by kernel_rfl
theorem weC9 (x : List UInt8) : keyA Tryz.prog 8 9 (kB x) = true := by kernel_rfl
theorem eqA9 (x y : List UInt8) : eqA Tryz.prog 8 9 (kB x) (kB y) = (true, qz0 (kB x) (kB y)) := by
 rw [kaa9];have : eqA Tryz.prog 8 9 (kB x) (kB y) = (true, decide (x = y)) := by kernel_rfl
 rw [this, Prod.mk.injEq];refine ⟨rfl, ?_⟩;rw [l'u]; simp
theorem vel9 (l : List (List Nat)) (x : List UInt8) : kag9 Tryz.prog 9 (mapB l) (.str x) = true := kaL9 (kA := kB) x xeC9 (weC9 _) (fun y => eqA9 _ _) _ 0
theorem zbY9 {l : List (List Nat)} (hl : ∀ w ∈ l, Small w) {w : List Nat} (hw : Small w) : bytM w ∈ l.map bytM ↔ findX eqL l w < l.length := by
 unfold findX;rw [List.findIdx_lt_length, l'B];constructor
 ·rintro ⟨T, hT, e⟩; exact ⟨T, hT, by rw [qbY9 (hl T hT) hw e]; exact qx0 w⟩
 ·rintro ⟨T, hT, e⟩; exact ⟨T, hT, by rw [kbv9 e]⟩
theorem vcO9 : ∀ {l : List (List Nat)} (hl : ∀ w ∈ l, Small w) {w : List Nat} (hw : Small w), (l.map bytM).idxOf (bytM w) = findX eqL l w
 | [], _, _, _ => rfl
 | T :: l, hl, w, hw => by
  have ih := vcO9 (l := l) (fun U hU => hl U (l'g _ hU)) hw;unfold findX at *;rw [List.map_cons, List.idxOf_cons, l'P, ih];have : (bytM T == bytM w) = eqL T w := by
   rw [l'u, beq_iff_eq];simp only [eqL, decide_eq_true_eq];exact ⟨qbY9 (hl T l'n) hw, fun h => by rw [h]⟩
  rw [this]
theorem xdo9 {l : List (List Nat)} (hl : ∀ w ∈ l, Small w) {w : List Nat} (hw : Small w) (h : findX eqL l w < l.length) (z : AV) : hasA (mapB l) (.str (bytM w)) = true ∧ zS0 z (mapB l) (.str (bytM w)) = .int .i64 (findX eqL l w : Nat) := by
 have hm := (zbY9 hl hw).2 h;have h1 := wL0 kaa9 (bytM w) (l.map bytM) 0;have h2 := zE0 kaa9 z (bytM w) (l.map bytM) 0;rw [if_pos hm, vcO9 hl hw, l'm] at h2;exact ⟨h1.trans (decide_eq_true hm), h2⟩
theorem wdo9 {l : List (List Nat)} (hl : ∀ w ∈ l, Small w) {w : List Nat} (hw : Small w) (h : findX eqL l w = l.length) (z : AV) : hasA (mapB l) (.str (bytM w)) = false ∧ zS0 z (mapB l) (.str (bytM w)) = z ∧ updA (mapB l) (.str (bytM w)) (.int .i64 (l.length : Nat)) = mapB (l ++ [w]) := by
 have hm : ¬ bytM w ∈ l.map bytM := fun q => by have := (zbY9 hl hw).1 q; omega
 have h1 := wL0 kaa9 (bytM w) (l.map bytM) 0;have h2 := zE0 kaa9 z (bytM w) (l.map bytM) 0;have hu := xas9 kaa9 (bytM w) (l.map bytM) 0 hm;rw [l'w, l'm] at hu;rw [if_neg hm] at h2;refine ⟨h1.trans (decide_eq_false hm), h2, ?_⟩;rw [mapB, mapB, z'g];exact hu
section
variable {δ : Nat → Nat → Nat} {acc : Nat → Bool} {A : Nat} {order : List Nat}
theorem kcO9 (hl : order.length ≤ 256) (j s : Nat) (hs : s ∈ order) : clK δ acc A order j s < 256 := by
 cases j with
 | zero => rw [clK]; split <;> omega
 | succ k =>
  rw [kal9];have h1 := find_lt.2 (kt0 (e := vf0 δ acc A order k) (qn0 k) hs);have h2 := wbi9 (δ := δ) (acc := acc) (A := A) (order := order) k;rw [vz0] at h2;omega
theorem kaY9 (hl : order.length ≤ 256) (hcl : ∀ s ∈ order, ∀ a, a < A → δ s a ∈ order) (j s : Nat) (hs : s ∈ order) : Small (qs0 δ A (clK δ acc A order j) s) := by
 intro x hx;unfold qs0 at hx;rcases l'C.1 hx with rfl|hx
 ·exact kcO9 hl j s hs
 ·obtain ⟨a, ha, rfl⟩ := l'B.1 hx;exact kcO9 hl j _ (hcl s hs a (l'o.1 ha))
theorem xE0 (cl : Nat → Nat) (u : Nat) (h : u < order.length) : namesC δ A order cl (u + 1) = addX eqL (namesC δ A order cl u) (qs0 δ A cl (order.getD u 0)) := by
 rw [namesC, xm0 _ _ 0 u h, n'T, ← namesC]; rfl
theorem zaw9 (hl : order.length ≤ 256) (hcl : ∀ s ∈ order, ∀ a, a < A → δ s a ∈ order) (j : Nat) : ∀ u, u ≤ order.length → ∀ w ∈ namesC δ A order (clK δ acc A order j) u, Small w
 | 0, _, w, hw => by simp [namesC] at hw
 | u + 1, h, w, hw => by
  rw [xE0 _ u h] at hw;exact vbT9 eqL (P := Small) _ _ (zaw9 hl hcl j u (by omega)) (kaY9 hl hcl j _ (wc0 h)) w hw
theorem qat9 (cl : Nat → Nat) (u : Nat) : ∀ d, u + d ≤ order.length → ∃ r, namesC δ A order cl (u + d) = namesC δ A order cl u ++ r
 | 0, _ => ⟨[], by simp⟩
 | d + 1, h => by
  obtain ⟨r, hr⟩ := qat9 cl u d (by omega);obtain ⟨q, hq⟩ := zZ0 eqL (namesC δ A order cl (u + d)) (qs0 δ A cl (order.getD (u + d) 0));refine ⟨r ++ q, ?_⟩;rw [← l'V, xE0 cl (u + d) (by omega), hq, hr, l'A]
theorem qaZ9 (cl : Nat → Nat) : ∀ u, u ≤ order.length → (namesC δ A order cl u).length ≤ u
 | 0, _ => by simp [namesC]
 | u + 1, h => by
  rw [xE0 cl u h];have := qaZ9 cl u (by omega);unfold addX;split <;> simp <;> omega
theorem qcP9 {cl : Nat → Nat} {u : Nat} (h : u < order.length) (hf : findX eqL (namesC δ A order cl u) (qs0 δ A cl (order.getD u 0)) < (namesC δ A order cl u).length) : wbJ9 δ A order cl (order.getD u 0) = findX eqL (namesC δ A order cl u) (qs0 δ A cl (order.getD u 0)) := by
 obtain ⟨r, hr⟩ := qat9 (δ := δ) (A := A) (order := order) cl u (order.length - u) (by omega);rw [n'L (by omega)] at hr;rw [wbJ9, hr];exact wZ0 r hf
theorem zcP9 {cl : Nat → Nat} {u : Nat} (h : u < order.length) (hf : findX eqL (namesC δ A order cl u) (qs0 δ A cl (order.getD u 0)) = (namesC δ A order cl u).length) : wbJ9 δ A order cl (order.getD u 0) = (namesC δ A order cl u).length := by
 obtain ⟨r, hr⟩ := qat9 (δ := δ) (A := A) (order := order) cl (u + 1) (order.length - (u + 1)) (by omega);rw [n'L (by omega), xE0 cl u h] at hr;have h1 := zbU9 (eqv := eqL) (namesC δ A order cl u) (qs0 δ A cl (order.getD u 0)) (qx0 _);rw [wbJ9, hr, wZ0 r (by rw [h1.1]; exact h1.2), h1.1, hf]
def clF (δ : Nat → Nat → Nat) (acc : Nat → Bool) (A : Nat) (order : List Nat) (j : Nat) : Nat → Int := fun s => if j = 0 ∨ s ∈ order then (clK δ acc A order j s : Int) else 0
def nxF (δ : Nat → Nat → Nat) (acc : Nat → Bool) (A : Nat) (order : List Nat) (j u : Nat) : Nat → Int := fun s => if s ∈ order.take u then (clK δ acc A order (j + 1) s : Int) else 0
theorem vdR9 (j : Nat) : nxF δ acc A order j order.length = clF δ acc A order (j + 1) := by
 funext s
 rw [nxF, clF, l'x];simp
theorem vdo9 (j : Nat) : nxF δ acc A order j 0 = fun _ => 0 := by funext s; simp [nxF]
theorem kdo9 (j u : Nat) (h : u < order.length) : updI (nxF δ acc A order j u) (order.getD u 0) (wbJ9 δ A order (clK δ acc A order j) (order.getD u 0) : Nat) = nxF δ acc A order j (u + 1) := by
 funext s
 rw [updI, nxF, nxF, xd0 order 0 u h];by_cases hs : s = order.getD u 0
 ·subst hs;rw [if_pos rfl, if_pos (by simp)]; rfl
 ·rw [if_neg hs];simp only [l'D, l'N, hs, or_false]
def inF (acc : Nat → Bool) (u : Nat) : Nat → Int := fun s => if s < u ∧ acc s = true then 1 else 0
theorem qdp9 : inF acc 0 = fun _ => 0 := by funext s; simp [inF]
theorem zdp9 (u : Nat) : inF acc (u + 1) = if acc u = true then updI (inF acc u) u 1 else inF acc u := by
 funext s
 by_cases h : acc u = true
 ·rw [if_pos h, updI, inF, inF];by_cases hs : s = u
  ·subst hs; simp [h]
  ·rw [if_neg hs];have : s < u + 1 ↔ s < u := by omega
   simp only [this]
 ·rw [if_neg h, inF, inF];by_cases hs : s = u
  ·subst hs; simp [h]
  ·have : s < u + 1 ↔ s < u := by omega
   simp only [this]
theorem kdR9 (n : Nat) : intF (inF acc n) n = intF (clF δ acc A order 0) n := zco9 fun s hs => by
 simp only [inF, clF, clK, true_or, if_true];by_cases h : acc s = true
 ·simp [hs, h]
 ·simp [h]
def cntB (δ : Nat → Nat → Nat) (acc : Nat → Bool) (A : Nat) (order : List Nat) : Nat → Nat
 | 0 => 0
 | j + 1 => cntK δ acc A order j
def van9 (δ : Nat → Nat → Nat) (cl : Nat → Nat) (s k : Nat) : List Nat := cl s :: (List.range k).map fun a => cl (δ s a)
theorem xco9 (cl : Nat → Nat) (s k : Nat) : van9 δ cl s (k + 1) = van9 δ cl s k ++ [cl (δ s k)] := by simp [van9, l'Z]
theorem xbz9 (cl : Nat → Nat) (s k : Nat) : (van9 δ cl s k).length = k + 1 := by simp [van9]
theorem xcP9 (cl : Nat → Nat) (s : Nat) : van9 δ cl s A = qs0 δ A cl s := rfl
end
theorem xbY9 (w : List Nat) (x : Nat) (hx : x < 256) : vt0 (bytM w) ++ [[.int .u8 (x : Nat)]] = vt0 (bytM (w ++ [x])) := by
 have e : ((UInt8.ofNat x).toNat : Nat) = x := by rw [z'w]; exact l'U hx
 have := xbI9 (bytM w) (UInt8.ofNat x);rw [e] at this;rw [this]; simp [bytM]
theorem wrap_u8 (x : Nat) (hx : x < 256) : IntKind.u8.wrap (x : Int) = x := by
 have : ∀ x : Fin 256, IntKind.u8.wrap (((x.1 : Nat)) : Int) = ((x.1 : Nat) : Int) := by decide +kernel
 exact this ⟨x, hx⟩
end Go.Proofs
