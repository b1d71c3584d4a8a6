import Derived.Test.YtcoakjnmnommpaaGreatDoorA20
import Derived.Test.YtcoakjnmnommpaaGreatDoorAR1
import Derived.Test.YtcoakjnmnommpaaGreatDoorV70
import Derived.Test.YtcoakjnmnommpaaGreatDoorAR3
namespace Go.Proofs
open Go Go.V
set_option linter.unusedVariables false
set_option linter.unusedSimpArgs false
set_option maxHeartbeats 0
def ofRN (l : List LC) (k : Nat) : List RC := (l.take k).map fun r => (wR0 r.1 r.1.length, none)
def dRow (A : Nat) (l : List (List Nat)) : List LC := l.map fun r => (intN r, some A)
theorem vP0 (A : Nat) (l : List (List Nat)) : (dRow A l).length = l.length := by simp [dRow]
theorem wcM9 (A : Nat) (l : List (List Nat)) (r : List Nat) : rowL (dRow A l) ++ [lC (intN r, some A)] = rowL (dRow A (l ++ [r])) := by rw [qby9]; simp [dRow]
def rowZ (A : Nat) (r : List Nat) : List (List AV) := ints (intN r ++ List.replicate (A - r.length) 0)
theorem vbW9 (A : Nat) (r : List Nat) (h : r.length ≤ A) : (rowZ A r).length = A := by simp [rowZ, xa0, kc0]; omega
theorem kbW9 (A : Nat) : List.replicate A [AV.int .i64 0] = rowZ A [] := by simp [rowZ, wbj9, intN]
theorem qbX9 (A : Nat) (r : List Nat) (q : Nat) (h : r.length < A) : (rowZ A r).set r.length [.int .i64 (q : Nat)] = rowZ A (r ++ [q]) := by
 rw [rowZ, xbj9, rowZ];congr 1
 have e : A - r.length = (A - (r ++ [q]).length) + 1 := by simp; omega
 rw [e, List.replicate_succ, n'l _ _ (by rw [kc0]; exact l'f _), kc0, n's, List.set_cons_zero, zL0, l'A];rfl
theorem zbX9 (A : Nat) (r : List Nat) (h : r.length < A) : (rowZ A r).getD r.length [] = [.int .i64 0] := by
 rw [rowZ, xc0 _ _ (by simp [kc0]; omega), l'b, l'r (by rw [kc0]; exact l'f _), kc0, n's];have e : A - r.length = (A - r.length - 1) + 1 := by omega
 rw [e, List.replicate_succ]; rfl
theorem zbz9 (A : Nat) (r : List Nat) (h : r.length = A) : rowZ A r = ints (intN r) := by
 rw [rowZ, h, n's]; simp
theorem kP0 (p : Nat → Bool) (A : Nat) (r : List Nat) : idsE p (rowZ A r) = true := wa0 _ _
section
variable {A zr : Nat} {l : List RC} {c : Option Nat} {zs : Nat} {st : List Int} {cs : Option Nat} {za : Nat} {ac : List Int} {ca : Option Nat}
theorem xel9 (hsz : SizeN zr l zs st za ac) (hok : OkNv A (rowsV l) st ac) : PC Tryz.prog G0 41 [.sl zs (ints st) cs] (.agg (PS (nfOf (rowsV l) st ac).S)) := by
 have hn := hok.n;have h := hok.st;have hS : SetIs (rowsV l).length (inL st) (natL st) := xaK9 h;have := of32 zs st cs hsz.zst hsz.bst (fun x hx => by have := qf0 h x hx; omega);rw [qbL9 hS] at this;exact this
theorem xdR9 (hsz : SizeN zr l zs st za ac) (hok : OkNv A (rowsV l) st ac) : PC Tryz.prog G0 41 [.sl za (ints ac) ca] (.agg (PS (nfOf (rowsV l) st ac).F)) := by
 have hn := hok.n;have h := hok.ac;have hS : SetIs (rowsV l).length (inL ac) (natL ac) := xaK9 h;have := of32 za ac ca hsz.zac hsz.bac (fun x hx => by have := qf0 h x hx; omega);rw [qbL9 hS] at this;exact this
theorem xbX9 (hsz : SizeN zr l zs st za ac) (hok : OkNv A (rowsV l) st ac) {S : List Nat} (hS : FiltF (nfOf (rowsV l) st ac).n S) {a : Nat} (ha : a < A) :
  PC Tryz.prog G0 47 [nA A zr l c zs st cs za ac ca, .agg (PS S), .int .i64 a] (.agg (PS (stepN (nfOf (rowsV l) st ac) S a))) := by
 have hN : (nfOf (rowsV l) st ac).n = l.length := wb0 l;have hS' : SetIs (rowsV l).length (pS S) S := xaY9 hS;have hs := xbV9 hok hS' ha;rw [wb0] at hS';have := qcK9 (c := c) (zs := zs) (cs := cs) (za := za) (ca := ca) hsz.zl hok (fun s a hs ha => hsz.bi s a hs (by rw [hok.row hs]; exact ha)) hS' ha;rw [qbL9 hs] at this;exact this
theorem qdo9 (hok : OkNv A (rowsV l) st ac) {S : List Nat} (hS : FiltF (nfOf (rowsV l) st ac).n S) :
  PC Tryz.prog G0 40 [.agg (PS S), .agg (PS (nfOf (rowsV l) st ac).F)] (.bool (accN (nfOf (rowsV l) st ac) S)) := by
 have h := xbK9 (pS S) (pS (nfOf (rowsV l) st ac).F);have hF : FiltF (nfOf (rowsV l) st ac).n (nfOf (rowsV l) st ac).F := (was9 hok).2;rw [xbx9 (xaY9 hS) (xaY9 hF) hok.n] at h;exact h
end
structure SrchS (n A : Nat) (step : List Nat → Nat → List Nat) (x0 : List Nat) : Prop where
 n256 : n ≤ 256
 f0 : FiltF n x0
 fs : ∀ S a, FiltF n (step S a)
theorem SrchS.st {n A : Nat} {step : List Nat → Nat → List Nat} {x0 : List Nat} (h : SrchS n A step x0) (i : Nat) : ∀ S ∈ (stX step eqL A x0 i).1, FiltF n S :=
 zaf9 step eqL A (P := FiltF n) x0 h.f0 (fun S _ a _ => h.fs S a) i
theorem SrchS.row {n A : Nat} {step : List Nat → Nat → List Nat} {x0 : List Nat} (h : SrchS n A step x0) (i a : Nat) (S : List Nat) (ha : a ≤ A) : ∀ T ∈ (rowX step eqL (stX step eqL A x0 i).1 S a).1, FiltF n T :=
 zaz9 step eqL A (P := FiltF n) _ _ (h.st i) (fun b _ => h.fs S b) a ha
theorem vcM9 {X : Type} (step : X → Nat → X) (eqv : X → X → Bool) (A : Nat) (x0 d : X) (i : Nat) (h : i < (stX step eqv A x0 i).1.length) :
  stX step eqv A x0 (i + 1) = ((rowX step eqv (stX step eqv A x0 i).1 ((stX step eqv A x0 i).1.getD i d) A).1, (stX step eqv A x0 i).2 ++ [(rowX step eqv (stX step eqv A x0 i).1 ((stX step eqv A x0 i).1.getD i d) A).2]) := by
 rw [stX, l'b, l'e h]; rfl
def vR0 (acc : List Nat → Bool) (l : List (List Nat)) (i : Nat) : List Bool := (l.take i).map acc
theorem kcM9 (acc : List Nat → Bool) (l : List (List Nat)) (i : Nat) (h : i ≤ l.length) : (vR0 acc l i).length = i := by simp [vR0]; omega
theorem waM9 (acc : List Nat → Bool) (l r : List (List Nat)) (i : Nat) (h : i ≤ l.length) : vR0 acc (l ++ r) i = vR0 acc l i := by
 rw [vR0, List.take_append_of_le_length h, vR0]
theorem qco9 (acc : List Nat → Bool) (l : List (List Nat)) (i : Nat) (h : i < l.length) : vR0 acc l (i + 1) = vR0 acc l i ++ [acc (l.getD i [])] := xm0 acc l [] i h
def detG (A : Nat) (x : Nf) (N : Nat) : AV := .tup [dA A 1 (dRow A (detR x A N)) (some N) 1 (detA x A N) (some N), .int .i64 0]
set_option maxRecDepth 100000 in
theorem qQ0 (A : Nat) (zr : Nat) (l : List RC) (c : Option Nat) (zs : Nat) (st : List Int) (cs : Option Nat) (za : Nat) (ac : List Int) (ca : Option Nat) (hsz : SizeN zr l zs st za ac) (hok : OkNv A (rowsV l) st ac) (R : AV)
  (hR : ∀ N, N ≤ 256 → (detS (nfOf (rowsV l) st ac) A N).length = N → R = detG A (nfOf (rowsV l) st ac) N) (hL : (∃ i, 256 < (detS (nfOf (rowsV l) st ac) A i).length) → R = .tup [dA0, .int .i64 3]) :
  PC Tryz.prog G0 23 [nA A zr l c zs st cs za ac ca] R := by
 have hck := hsz.check (sym := A) (c := c) (cs := cs) (ca := ca);rw [xbw9 hok] at hck;have hof := xel9 (cs := cs) hsz hok;have hoF := xdR9 (ca := ca) hsz hok;have hstep := fun S hS a ha => xbX9 (c := c) (cs := cs) (ca := ca) hsz hok (S := S) hS (a := a) ha;have hmeet := fun S hS => qdo9 hok (S := S) hS;have hidR : ∀ p, idsE p (xe0 l) = true := fun p => ze0 _ _;have hidS : ∀ p, idsE p (ints st) = true := fun p => wa0 _ _;have hidA : ∀ p, idsE p (ints ac) = true := fun p => wa0 _ _;have hA1 := hok.a1;have hA2 := hok.a2;have hx0 : SrchS (nfOf (rowsV l) st ac).n A (stepN (nfOf (rowsV l) st ac)) (nfOf (rowsV l) st ac).S := ⟨hok.n, (was9 hok).1, fun S a => waJ9 _ S a⟩;have hpos : ∀ i, 1 ≤ (stX (stepN (nfOf (rowsV l) st ac)) eqL A (nfOf (rowsV l) st ac).S i).1.length := fun i => by
  have := wO0 (step := stepN (nfOf (rowsV l) st ac)) (eqv := eqL) (A := A) (nfOf (rowsV l) st ac).S i;have := (l'c.1 this).1;omega
 unfold detS detG detR detA at *;unfold detS at hR;generalize nfOf (rowsV l) st ac = X at *;generalize X.S = x0 at *;generalize hn0 : X.n = n at *;have hn256 := hx0.n256;have hsF1 : (PS X.F).length = 4 := rfl;have hsF2 : ∀ f, idsL f (PS X.F) = true := fun f => vo0 _ _;generalize PS X.F = sF at *;generalize stepN X = step at *;generalize accN X = acc at *;clear hn0;unfold nA at *;generalize xe0 l = RN at *;generalize ints st = IS at *;generalize ints ac = IA at *;have hm0 := fun S => vdA9 [] S;have hm1 := fun S => zdn9 S
 change ∀ S, kag9 Tryz.prog 68 [] (.agg (PS S)) = true at hm0
 refine qc0 1 106 [.cell 2 47, .tmp 3] Tryz.func23 rfl rfl rfl (by simp) ?_;intro s ⟨a0, hz⟩;clear hz;repeat' (first|(refine g0_ ?_; with_reducible refine qcE9 [] (p := [0, 1, 1]) rfl rfl ?_)|(refine a0_ ?_; refine vbI9 rfl ?_)|(first|(with_reducible refine xz0 (p := [0, 0, 1, 1, 1, 1, 1]) ?_)|refine nav ?_|(refine g0_ ?_; first|refine dN (p := [0, 1, 0, 0, 1, 1, 0, 0, 1, 0, 1, 0, 0, 1, 0, 0, 1, 0, 1, 1, 1, 1, 1]) [] [] [(7, 8)] ?_|refine dN (p := [1, 0, 1, 0, 1, 1, 1, 0, 0, 1, 1, 0, 0, 1, 0, 1, 0, 0, 1, 0, 0, 1, 0, 1, 1, 1, 1, 1]) [(67, 11)] [(72, some 69)] [] ?_|refine goD ?_))|(with_reducible first|refine gG ?_ ?_|refine ⟨fun h => ?_, fun h => ?_⟩ <;> try omega|refine andG ?_)|refine cp_ hck ?_ (hi := by (simp [idsL, idsE, AV.ids, hidR, hidS, hidA, vo0, hsF2, zl0]))|refine cp_ hof ?_ (hi := by (simp [idsL, idsE, AV.ids, hidR, hidS, hidA, vo0, hsF2, zl0]))|simp (disch := try exact qa0) only [push_cast, simprocAttr, a0, wy0, xo0, wo0, hm0, hm1])
 refine Halt.mk ?_;refine vv0 (by first|exact va0|fail) (wg0 (b := 4) (i := 0) (j := 1) (sz := 1) (ty := 27) rfl rfl rfl) ?_;refine vv0 (by trivial) (wg0 (b := 4) (i := 0) (j := 2) (sz := 1) (ty := 4) rfl rfl rfl) ?_;repeat' (first|(first|refine nav ?_|(refine g0_ ?_; first|refine dN (p := [0, 1, 0, 0, 1, 1, 0, 0, 1, 0, 1, 0, 0, 1, 0, 0, 1, 0, 1, 1, 1, 1, 1]) [] [] [(7, 8)] ?_|refine dN (p := [1, 0, 1, 0, 1, 1, 1, 0, 0, 1, 1, 0, 0, 1, 0, 1, 0, 0, 1, 0, 0, 1, 0, 1, 1, 1, 1, 1]) [(67, 11)] [(72, some 69)] [] ?_|refine goD ?_))|(with_reducible first|refine gG ?_ ?_|refine ⟨fun h => ?_, fun h => ?_⟩ <;> try omega|refine andG ?_)|simp (disch := try exact qa0) only [push_cast, simprocAttr, a0, wy0, xo0, wo0, hm0, hm1])
 refine go_loop rfl (fun mz s' H' => ∃ i : Nat, i ≤ (stX step eqL A x0 i).1.length ∧ (stX step eqL A x0 i).1.length ≤ 256 ∧ mz = 257 - i ∧ H' = [.row 4 29 [[.int .i64 A, .sl zr RN c, .sl zs IS cs, .sl za IA ca]], .row 3 47 [[.int .i64 0, .sl 0 [] (some 0), .sl 0 [] (some 0)]], .row 4 68 (zax9 (stX step eqL A x0 i).1), .ob (.map 68 3 (mapS (stX step eqL A x0 i).1)), .row 3 47 [[.int .i64 A, .own 5 i i none, .own 6 i i none]], .row 1 27 (rowL (dRow A (stX step eqL A x0 i).2)), .row 1 4 (qb0 (vR0 acc (stX step eqL A x0 i).1 i))] ∧ s' 1 = .ptr 0 0 0 1 ∧ s' 2 = .ptr 1 0 0 1 ∧ s' 5 = .own 2 (stX step eqL A x0 i).1.length (stX step eqL A x0 i).1.length none ∧ s' 6 = .mp 3 ∧ s' 7 = .ptr 4 0 0 1 ∧ s' 8 = .int .i64 i) (m := 257) (by first|exact va0|fail) (Weak.refl _ _) ⟨0, by simp [stX], by simp [stX], by omega, by rfl, ?_⟩ ?_
 ·simp (disch := try exact qa0) only [push_cast, simprocAttr, a0, wy0, xo0, wo0, hm0, hm1];simp [stX]
 ·rintro mz s' H' ⟨i, hi, hi256, rfl, rfl, b1, b2, b5, b6, b7, b8⟩;have hrl := vA0 step eqL A x0 i hi;have hf := hx0.st i;have hfr := fun S a (ha : a ≤ A) => hx0.row i a S ha;have hpi := hpos i;have hnx := vcM9 step eqL A x0 [] i;have hacc1 := qco9 acc (stX step eqL A x0 i).1 i;have haccl := kcM9 acc (stX step eqL A x0 i).1 i hi;have hRi := hR i;have hgrow : ∀ a, a ≤ A → i < (stX step eqL A x0 i).1.length → 256 < (rowX step eqL (stX step eqL A x0 i).1 ((stX step eqL A x0 i).1.getD i []) a).1.length → R = .tup [dA0, .int .i64 3] := fun a ha hlt h => hL ⟨i + 1, by
   rw [hnx hlt];have : ∀ d, (rowX step eqL (stX step eqL A x0 i).1 ((stX step eqL A x0 i).1.getD i []) a).1.length ≤ (rowX step eqL (stX step eqL A x0 i).1 ((stX step eqL A x0 i).1.getD i []) (a + d)).1.length := fun d => by
    induction d with
    | zero => exact l'f _
    | succ d ih => exact n'j ih (wbT9 eqL _ _)
   have := this (A - a);rw [n'L ha] at this;exact n'v h this⟩
  generalize hnxt : stX step eqL A x0 (i + 1) = NX at *;generalize hT : stX step eqL A x0 i = T at *;obtain ⟨L, D⟩ := T;simp only at *;have hSl := qaw9 L;have hDl : (rowL (dRow A D)).length = i := by rw [zb0, vP0, hrl]
  have hBl : (qb0 (vR0 acc L i)).length = i := by rw [zc0, haccl]
  have etD : (rowL (dRow A D)).take i = rowL (dRow A D) := l'k (by omega);have edD : (rowL (dRow A D)).drop (i + 1) = [] := l'z (by omega);have etB : (qb0 (vR0 acc L i)).take i = qb0 (vR0 acc L i) := l'k (by omega);have edB : (qb0 (vR0 acc L i)).drop (i + 1) = [] := l'z (by omega);have hidD : ∀ p, idsE p (rowL (dRow A D)) = true := fun p => vc0 _ _;have hidB : ∀ p, idsE p (qb0 (vR0 acc L i)) = true := fun p => zd0 _ _;rcases l'i i L.length with hlt|hge
  ·have hnx := hnx hlt;have hacc1 := hacc1 hlt;have hgS := waY9 L i hlt;have hSf : FiltF n (L.getD i []) := hf _ (wc0 hlt);have hfr := hfr (L.getD i []);have hstep := hstep (L.getD i []) hSf;have hmeetk := hmeet (L.getD i []) hSf;have hgrow := fun a ha => hgrow a ha hlt;generalize hS0 : L.getD i [] = S at *;repeat' (first|(first|refine nav ?_|(refine g0_ ?_; first|refine dN (p := [0, 1, 0, 0, 1, 1, 0, 0, 1, 0, 1, 0, 0, 1, 0, 0, 1, 0, 1, 1, 1, 1, 1]) [] [] [(7, 8)] ?_|refine dN (p := [1, 0, 1, 0, 1, 1, 1, 0, 0, 1, 1, 0, 0, 1, 0, 1, 0, 0, 1, 0, 0, 1, 0, 1, 1, 1, 1, 1]) [(67, 11)] [(72, some 69)] [] ?_|refine goD ?_))|(with_reducible first|refine gG ?_ ?_|refine ⟨fun h => ?_, fun h => ?_⟩ <;> try omega|refine andG ?_)|simp (disch := try exact qa0) only [push_cast, simprocAttr, b1, b2, b5, b6, b7, b8, hSl])
   have hz0 := kbW9 A;refine go_loop rfl (fun mz s' H' => ∃ a : Nat, a ≤ A ∧ (rowX step eqL L S a).1.length ≤ 256 ∧ mz = A - a ∧ H' = [.row 4 29 [[.int .i64 A, .sl zr RN c, .sl zs IS cs, .sl za IA ca]], .row 3 47 [[.int .i64 0, .sl 0 [] (some 0), .sl 0 [] (some 0)]], .row 4 68 (zax9 (rowX step eqL L S a).1), .ob (.map 68 3 (mapS (rowX step eqL L S a).1)), .row 3 47 [[.int .i64 A, .own 5 i i none, .own 6 i i none]], .row 1 27 (rowL (dRow A D)), .row 1 4 (qb0 (vR0 acc (rowX step eqL L S a).1 i)), .row 1 3 (rowZ A (rowX step eqL L S a).2)] ∧ s' 1 = .ptr 0 0 0 1 ∧ s' 2 = .ptr 1 0 0 1 ∧ s' 5 = .own 2 (rowX step eqL L S a).1.length (rowX step eqL L S a).1.length none ∧ s' 6 = .mp 3 ∧ s' 7 = .ptr 4 0 0 1 ∧ s' 8 = .int .i64 i ∧ s' 9 = .own 7 A A (some A) ∧ s' 41 = .own 7 A A (some A) ∧ s' 42 = .int .i64 A ∧ s' 43 = .int .i64 a) (m := A) (by first|exact va0|fail) (Weak.refl _ _) ⟨0, by omega, by simpa [rowX] using hi256, by omega, by rw [hz0]; rfl, ?_⟩ ?_
   ·simp (disch := try exact qa0) only [push_cast, simprocAttr, b1, b2, b5, b6, b7, b8, hSl];simp [rowX]
   ·rintro mz s' H' ⟨a, ha, hw256, rfl, rfl, b1, b2, b5, b6, b7, b8, b9, b41, b42, b43⟩;have hfw := hfr a ha;have hpre := xZ0 step eqL L S a;have hwl := xal9 step eqL L S a;have hsucc : rowX step eqL L S (a + 1) = (addX eqL (rowX step eqL L S a).1 (step S a), (rowX step eqL L S a).2 ++ [findX eqL (rowX step eqL L S a).1 (step S a)]) := rfl;have hgrow1 := fun h => hgrow (a + 1) h;have hfull : a = A → NX = ((rowX step eqL L S a).1, D ++ [(rowX step eqL L S a).2]) := fun h => by rw [hnx, h]
    generalize hW1 : rowX step eqL L S (a + 1) = W1 at *;generalize hW0 : rowX step eqL L S a = W at *;obtain ⟨M, r⟩ := W;simp only at *;obtain ⟨E, rfl⟩ := hpre;have hiM : i < (L ++ E).length := by simp; omega
    have hgM := waY9 (L ++ E) i (by simp; omega);have hSM : (L ++ E).getD i [] = S := by rw [l'b, l'd hlt, ← l'b, hS0]
    rw [hSM] at hgM;have haccM := waM9 acc L E i hi;have haccS := waM9 acc L E (i + 1) hlt;have haccN := fun U => (waM9 acc (L ++ E) U i (by simp; omega)).trans haccM;have hSl := qaw9 (L ++ E);have hml := zbL9 (L ++ E);have hzl := vbW9 A r (by omega);generalize L ++ E = M at *;rcases l'i a A with hla|hga
    ·have hgrow1 := hgrow1 hla;have hst := hstep a hla;have hfT := hx0.fs S a;have hset := fun q => qbX9 A r q (by omega);rw [hwl] at hset;have hgz := zbX9 A r (by omega);rw [hwl] at hgz;have hok1 := vdA9 M (step S a);have hold := fun h => kdm9 hn256 hfw hfT h (.int .i64 0);have hnew := fun h => qdn9 hn256 hfw hfT h (.int .i64 0);have hle := qaJ9 (eqv := eqL) M (step S a);have hadd : addX eqL M (step S a) = if findX eqL M (step S a) = M.length then M ++ [step S a] else M := rfl
     have hsn := xcn9 M (step S a);generalize step S a = tq at *;generalize hq : findX eqL M tq = q at *;rcases l'i q M.length with hlq|hgq
     ·obtain ⟨f1, f2⟩ := hold hlq;rw [if_neg (by omega)] at hadd;rw [hadd] at hsucc;repeat' (first|(first|refine nav ?_|(refine g0_ ?_; first|refine dN (p := [0, 1, 0, 0, 1, 1, 0, 0, 1, 0, 1, 0, 0, 1, 0, 0, 1, 0, 1, 1, 1, 1, 1]) [] [] [(7, 8)] ?_|refine dN (p := [1, 0, 1, 0, 1, 1, 1, 0, 0, 1, 1, 0, 0, 1, 0, 1, 0, 0, 1, 0, 0, 1, 0, 1, 1, 1, 1, 1]) [(67, 11)] [(72, some 69)] [] ?_|refine goD ?_))|(with_reducible first|refine gG ?_ ?_|refine ⟨fun h => ?_, fun h => ?_⟩ <;> try omega|refine andG ?_)|refine cp_ hst ?_ (hi := by (simp [idsL, idsE, AV.ids, hidR, hidS, hidA, vo0, hsF2, zl0, hidD, hidB, qH0, kP0]))|simp (disch := try exact qa0) only [push_cast, simprocAttr, b1, b2, b5, b6, b7, b8, b9, b41, b42, b43, hSl, hml, hzl, hgM, hok1, f1, f2, qaM9, wy0, xo0, wo0, hset, hgz, haccM])
      refine kq0 (A - (a + 1)) 8 (by omega) (by first|exact va0|fail) (by omega) (by simp) (by simp [Blk.below, idsE, idsL, AV.ids, hidR, hidS, hidA, qH0, zl0, hidD, hidB, kP0]) ⟨a + 1, by omega, by rw [hW1, hsucc]; exact hw256, rfl, by rw [hW1, hsucc]; simp [hset, haccM], ?_⟩;rw [hW1, hsucc];simp (disch := try exact qa0) only [push_cast, simprocAttr, b1, b2, b5, b6, b7, b8, b9, b41, b42, b43, ki0, AV.ids, idsL]
     ·obtain rfl : q = M.length := by omega
      obtain ⟨f1, f2, f3⟩ := hnew rfl;rw [if_pos rfl] at hadd;rw [hadd] at hsucc;have haccM1 := haccN [tq];rcases l'i M.length 256 with h256|h256
      ·have h256' : ¬ (M.length : Int) = 256 := by omega
       have h256n : ¬ M.length = 256 := by omega
       repeat' (first|(first|refine nav ?_|(refine g0_ ?_; first|refine dN (p := [0, 1, 0, 0, 1, 1, 0, 0, 1, 0, 1, 0, 0, 1, 0, 0, 1, 0, 1, 1, 1, 1, 1]) [] [] [(7, 8)] ?_|refine dN (p := [1, 0, 1, 0, 1, 1, 1, 0, 0, 1, 1, 0, 0, 1, 0, 1, 0, 0, 1, 0, 0, 1, 0, 1, 1, 1, 1, 1]) [(67, 11)] [(72, some 69)] [] ?_|refine goD ?_))|(with_reducible first|refine gG ?_ ?_|refine ⟨fun h => ?_, fun h => ?_⟩ <;> try omega|refine andG ?_)|refine cp_ hst ?_ (hi := by (simp [idsL, idsE, AV.ids, hidR, hidS, hidA, vo0, hsF2, zl0, hidD, hidB, qH0, kP0]))|simp (disch := try exact qa0) only [push_cast, simprocAttr, b1, b2, b5, b6, b7, b8, b9, b41, b42, b43, hSl, hml, hzl, hgM, hok1, f1, f2, f3, qaM9, wy0, xo0, wo0, hset, hgz, haccM, h256', h256n])
       refine kq0 (A - (a + 1)) 8 (by omega) (by first|exact va0|fail) (by omega) (by simp) (by simp [Blk.below, idsE, idsL, AV.ids, hidR, hidS, hidA, qH0, zl0, hidD, hidB, kP0, vo0]) ⟨a + 1, by omega, by rw [hW1, hsucc]; simp; omega, rfl, by rw [hW1, hsucc]; simp [hset, hsn, haccM1, haccM], ?_⟩;rw [hW1, hsucc];simp (disch := try exact qa0) only [push_cast, simprocAttr, b1, b2, b5, b6, b7, b8, b9, b41, b42, b43, ki0, AV.ids, idsL]
      ·have h256' : (M.length : Int) = 256 := by omega
       have h256n : M.length = 256 := by omega
       rw [hgrow1 (by rw [hsucc]; simp; omega)];unfold dA0;repeat' (first|(first|refine nav ?_|(refine g0_ ?_; first|refine dN (p := [0, 1, 0, 0, 1, 1, 0, 0, 1, 0, 1, 0, 0, 1, 0, 0, 1, 0, 1, 1, 1, 1, 1]) [] [] [(7, 8)] ?_|refine dN (p := [1, 0, 1, 0, 1, 1, 1, 0, 0, 1, 1, 0, 0, 1, 0, 1, 0, 0, 1, 0, 0, 1, 0, 1, 1, 1, 1, 1]) [(67, 11)] [(72, some 69)] [] ?_|refine goD ?_))|(with_reducible first|refine gG ?_ ?_|refine ⟨fun h => ?_, fun h => ?_⟩ <;> try omega|refine andG ?_)|refine cp_ hst ?_ (hi := by (simp [idsL, idsE, AV.ids, hidR, hidS, hidA, vo0, hsF2, zl0, hidD, hidB, qH0, kP0]))|simp (disch := try exact qa0) only [push_cast, simprocAttr, b1, b2, b5, b6, b7, b8, b9, b41, b42, b43, hSl, hml, hzl, hgM, hok1, f1, f2, f3, qaM9, wy0, xo0, wo0, hset, hgz, haccM, h256', h256n])
    ·obtain rfl : A = a := by omega
     have hfull := hfull rfl;have hrf := zbz9 A r hwl;have hsnB := vcl9 (vR0 acc L i) (acc S);rw [← hacc1] at hsnB;have hsnD := wcM9 A D r;rw [hrf] at *;have hidr : ∀ p, idsE p (ints (intN r)) = true := fun p => wa0 _ _;have hil : (ints (intN r)).length = A := by rw [xa0, kc0, hwl]
     have het : (ints (intN r)).take A = ints (intN r) := l'k (by omega);have hin : (intN r).length = A := by rw [kc0, hwl]
     repeat' (first|(first|refine nav ?_|(refine g0_ ?_; first|refine dN (p := [0, 1, 0, 0, 1, 1, 0, 0, 1, 0, 1, 0, 0, 1, 0, 0, 1, 0, 1, 1, 1, 1, 1]) [] [] [(7, 8)] ?_|refine dN (p := [1, 0, 1, 0, 1, 1, 1, 0, 0, 1, 1, 0, 0, 1, 0, 1, 0, 0, 1, 0, 0, 1, 0, 1, 1, 1, 1, 1]) [(67, 11)] [(72, some 69)] [] ?_|refine goD ?_))|(with_reducible first|refine gG ?_ ?_|refine ⟨fun h => ?_, fun h => ?_⟩ <;> try omega|refine andG ?_)|refine cp_ hoF ?_ (hi := by (simp [idsL, idsE, AV.ids, hidR, hidS, hidA, vo0, hsF2, zl0, hidD, hidB, qH0, kP0]))|refine cp_ hmeetk ?_ (hi := by (simp [idsL, idsE, AV.ids, hidR, hidS, hidA, vo0, hsF2, zl0, hidD, hidB, qH0, kP0]))|simp (disch := try exact qa0) only [push_cast, simprocAttr, b1, b2, b5, b6, b7, b8, b9, b41, b42, b43, hSl, hgM, wy0, xo0, wo0, hDl, hBl, etD, edD, etB, edB, haccM, hin])
     refine zm0 (257 - (i + 1)) 7 (j := 7) rfl (by omega) (by first|exact va0|fail) (by omega) (by simp [frzH]) (by simp [frzH, frzB, frz, Blk.below, idsE, idsL, AV.ids, xn0, qg0, hidR, hidS, hidA, qH0, zl0, hidD, hidB, hidr, hil, het]) ⟨i + 1, ?_, ?_, rfl, ?_, ?_⟩
     ·rw [hnxt, hfull]; exact hiM
     ·rw [hnxt, hfull]; exact hw256
     ·rw [hnxt, hfull];simp only;rw [haccS, ← hsnB, ← hsnD];simp [frzH, frzB, frz, xn0, hidR, hidS, hidA, zl0, hidD, hidB, hidr, hil, het, lC]
     ·rw [hnxt, hfull];simp (disch := try exact qa0) only [push_cast, simprocAttr, b1, b2, b5, b6, b7, b8, ki0, frz, AV.ids, idsL]
  ·obtain rfl : i = L.length := by omega
   rw [hRi (by omega) rfl];have haF : vR0 acc L L.length = L.map acc := by rw [vR0, l'x]
   rw [haF] at hBl etB hidB ⊢;have hc1 := fun H hb => vas9 5 L.length L.length 27 (rowL (dRow A D)) none H hb hDl.symm (l'f _);have hc2 := fun H hb => vaY9 6 L.length L.length 4 (qb0 (L.map acc)) none H hb hBl.symm (l'f _);have hc1 := hc1 [.row 4 29 [[.int .i64 A, .sl zr RN c, .sl zs IS cs, .sl za IA ca]], .row 3 47 [[.int .i64 0, .sl 0 [] (some 0), .sl 0 [] (some 0)]], .row 4 68 (zax9 L), .ob (.map 68 3 (mapS L)), .row 3 47 [[.int .i64 A, .own 5 L.length L.length none, .own 6 L.length L.length none]], .row 1 27 (rowL (dRow A D)), .row 1 4 (qb0 (L.map acc))] rfl;have hc2 := hc2 [.row 4 29 [[.int .i64 A, .sl zr RN c, .sl zs IS cs, .sl za IA ca]], .row 3 47 [[.int .i64 0, .sl 0 [] (some 0), .sl 0 [] (some 0)]], .row 4 68 (zax9 L), .ob (.map 68 3 (mapS L)), .row 3 47 [[.int .i64 A, .own 5 L.length L.length none, .own 6 L.length L.length none]], .row 1 27 (rowL (dRow A D)), .row 1 4 (qb0 (L.map acc))] rfl;unfold dA;repeat' (first|(first|refine nav ?_|(refine g0_ ?_; first|refine dN (p := [0, 1, 0, 0, 1, 1, 0, 0, 1, 0, 1, 0, 0, 1, 0, 0, 1, 0, 1, 1, 1, 1, 1]) [] [] [(7, 8)] ?_|refine dN (p := [1, 0, 1, 0, 1, 1, 1, 0, 0, 1, 1, 0, 0, 1, 0, 1, 0, 0, 1, 0, 0, 1, 0, 1, 1, 1, 1, 1]) [(67, 11)] [(72, some 69)] [] ?_|refine goD ?_))|(with_reducible first|refine gG ?_ ?_|refine ⟨fun h => ?_, fun h => ?_⟩ <;> try omega|refine andG ?_)|refine cl_ hc1 ?_|refine cl_ hc2 ?_|simp (disch := try exact qa0) only [push_cast, simprocAttr, b1, b2, b5, b6, b7, b8, hSl, hDl, hBl, etD, etB])
theorem FiltF.len {n : Nat} {S : List Nat} (h : FiltF n S) : S.length ≤ n := by
 obtain ⟨p, rfl⟩ := h;have := n'a p (List.range n)
 rwa [n'p] at this
def zeC9 (l : List (List Nat)) : List LC := l.map fun S => (intN S, none)
def qcN9 (l : List (List Nat)) : List LC := l.map fun r => (intN r, none)
theorem zcN9 (l : List (List Nat)) : (qcN9 l).length = l.length := by simp [qcN9]
def anyF (F S : List Nat) (k : Nat) : Bool := (S.take k).any fun s => F.contains s
def detH (A : Nat) (x : Nf) (N : Nat) : AV := dA A 1 (qcN9 (detR x A N)) none 1 (detA x A N) none
end Go.Proofs
