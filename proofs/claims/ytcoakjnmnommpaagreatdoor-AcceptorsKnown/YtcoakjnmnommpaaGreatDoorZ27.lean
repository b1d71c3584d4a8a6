import Derived.Test.YtcoakjnmnommpaaGreatDoorA37
import Derived.Test.YtcoakjnmnommpaaGreatDoorZ15a
import Derived.Test.YtcoakjnmnommpaaGreatDoorZ15
import Derived.Test.YtcoakjnmnommpaaGreatDoorA16
import Derived.Test.YtcoakjnmnommpaaGreatDoorA55
import Derived.Test.YtcoakjnmnommpaaGreatDoorV51
namespace Go.Proofs
open Go Go.V Go.RowKit
set_option linter.unusedVariables false
set_option linter.unusedSimpArgs false
set_option maxHeartbeats 0
set_option maxRecDepth 100000
def kR0 (n m a : Nat) : Nat := (2 * m + (if a = 0 then 1 else 0)) % 2 ^ n
def setM (n m : Nat) : List Nat := (List.range (n + 1)).filter fun s => s == 0 || m.testBit (s - 1)
def kN (n : Nat) : Nf := nfOf (rowsV (kthL n)) [0] [(n : Int)]
def chkM (n : Nat) : Bool := decide ((kN n).S = setM n 0) && (List.range (2 ^ n)).all fun m => (decide (accN (kN n) (setM n m) = m.testBit (n - 1))) && (List.range 2).all fun a => decide (stepN (kN n) (setM n m) a = setM n (kR0 n m a))
theorem chk8 : chkM 8 = true := by kernel_rfl
theorem chk9 : chkM 9 = true := by kernel_rfl
theorem vdC9 : (stX (kR0 8) eqX 2 0 256).1.length = 256 := by kernel_rfl
theorem zep9 : (stX (kR0 9) eqX 2 0 130).1.length = 260 := by kernel_rfl
theorem kbl9 (n m a : Nat) : kR0 n m a < 2 ^ n := n'n _ (Nat.two_pow_pos n)
theorem wdv9 {n m m' : Nat} (h : m < 2 ^ n) (h' : m' < 2 ^ n) (e : setM n m = setM n m') : m = m' := by
 apply n'R;intro i;by_cases hi : i < n
 ·have : (i + 1) ∈ setM n m ↔ (i + 1) ∈ setM n m' := by rw [e]
  simp [setM, l'T, hi] at this;exact this
 ·rw [n'g (n'v h (n'z (by omega) (by omega))), n'g (n'v h' (n'z (by omega) (by omega)))]
theorem qbO9 {n : Nat} (h : chkM n = true) (i : Nat) : All2 (fun S m => m < 2 ^ n ∧ S = setM n m) (detS (kN n) 2 i) (stX (kR0 n) eqX 2 0 i).1 ∧ detR (kN n) 2 i = (stX (kR0 n) eqX 2 0 i).2 := by
 simp only [chkM, l'a, decide_eq_true_eq, l'j, l'o] at h;refine qbU9 (R := fun S m => m < 2 ^ n ∧ S = setM n m) ?_ ?_ ⟨Nat.two_pow_pos n, h.1⟩ i
 ·rintro x y x' y' ⟨q1, rfl⟩ ⟨q2, rfl⟩;rw [eqL, eqX, l'u, decide_eq_true_eq, decide_eq_true_eq];exact ⟨wdv9 q1 q2, fun q => by rw [q]⟩
 ·rintro x y ⟨q1, rfl⟩ a ha;exact ⟨kbl9 n y a, (h.2 y q1).2 a ha⟩
theorem wcW9 {n : Nat} (h : chkM n = true) (i : Nat) : (detS (kN n) 2 i).length = (stX (kR0 n) eqX 2 0 i).1.length := (qbO9 h i).1.len
theorem kdY9 {n : Nat} (h : chkM n = true) (i : Nat) : detA (kN n) 2 i = (stX (kR0 n) eqX 2 0 i).1.map fun m => m.testBit (n - 1) := by
 have hr := (qbO9 h i).1;simp only [chkM, l'a, decide_eq_true_eq, l'j, l'o] at h;rw [detA];generalize detS (kN n) 2 i = L at *;generalize (stX (kR0 n) eqX 2 0 i).1 = M at *;induction hr with
 | nil => rfl
 | cons q _ ih =>
  obtain ⟨q1, rfl⟩ := q;rw [List.map_cons, List.map_cons, ih, (h.2 _ q1).1]
theorem xep9 : ((List.range 256).all fun m => (List.range 8).all fun k => (runX (kR0 8) m (List.replicate k 1)).testBit 7 == m.testBit (7 - k)) = true := by kernel_rfl
theorem keD9 : vaK9 (kR0 8) (fun m => m.testBit 7) 2 eqX := fun v w hv hw => by
 have hv := run_in (δ := kR0 8) (A := 2) (n := 256) (fun s _ a _ => kbl9 8 s a) v 0 hv (by omega);have hw := run_in (δ := kR0 8) (A := 2) (n := 256) (fun s _ a _ => kbl9 8 s a) w 0 hw (by omega);generalize runX (kR0 8) 0 v = m at *;generalize runX (kR0 8) 0 w = m' at *;rw [eqX, decide_eq_true_eq];refine ⟨fun q u _ => by rw [q], fun h => n'R fun i => ?_⟩;by_cases hi : i < 8
 ·have hs := xep9;simp only [l'j, l'o, beq_iff_eq] at hs;have : (runX (kR0 8) m (List.replicate (7 - i) 1)).testBit 7 = (runX (kR0 8) m' (List.replicate (7 - i) 1)).testBit 7 := h (List.replicate (7 - i) 1) (fun a ha => by rw [(List.mem_replicate.1 ha).2]; omega);rw [hs m hv (7 - i) (by omega), hs m' hw (7 - i) (by omega), show 7 - (7 - i) = i by omega] at this;exact this
 ·have hp : (256 : Nat) ≤ 2 ^ i := n'z (n := 2) (i := 8) (by omega) (by omega);rw [n'g (by omega), n'g (by omega)]
theorem qdZ9 : MinOf (kR0 8) (fun m => m.testBit 7) 2 (detR (kN 8) 2 256) (detA (kN 8) 2 256) :=
 ⟨eqX, 256, keD9, vdC9, (qbO9 chk8 256).2, kdY9 chk8 256⟩
theorem kth_self : MinOf (fun s a => ((detR (kN 8) 2 256).getD s []).getD a 0) (fun s => (detA (kN 8) 2 256).getD s false) 2 (detR (kN 8) 2 256) (detA (kN 8) 2 256) := zdl9 qdZ9
theorem zdZ9 : OkNv 2 (rowsV (kthL 8)) [0] [(8 : Nat)] := by
 obtain ⟨A, h1, h2⟩ := wK0 (sym := 2) (rows := rowsV (kthL 8)) (st := [0]) (ac := [8]) (by kernel_rfl);obtain rfl : A = 2 := by omega
 exact h2
theorem xdZ9 : OkNv 2 (rowsV (kthL 9)) [0] [(9 : Nat)] := by
 obtain ⟨A, h1, h2⟩ := wK0 (sym := 2) (rows := rowsV (kthL 9)) (st := [0]) (ac := [9]) (by kernel_rfl);obtain rfl : A = 2 := by omega
 exact h2
theorem qbm9 {l : List RC} {st ac : List Int} (h : (decide (l.length ≤ 1000 ∧ st.length ≤ 1000 ∧ ac.length ≤ 1000) && l.all fun r => decide (r.1.length ≤ 1000) && r.1.all fun q => decide (q.1.length ≤ 1000)) = true) : SizeN 1 l 1 st 1 ac := by
 simp only [l'a, decide_eq_true_eq, l'j] at h;refine ⟨.inr rfl, .inr rfl, .inr rfl, by omega, by omega, by omega, fun s hs => ?_, fun s a hs ha => ?_⟩
 ·have := (h.2 _ (wc0 (d := ([], none)) hs)).1;omega
 ·have := (h.2 _ (wc0 (d := ([], none)) hs)).2 _ (wc0 (d := ([], none)) ha);omega
theorem vcW9 : SizeN 1 (kthL 8) 1 [0] 1 [(8 : Nat)] := qbm9 (by kernel_rfl)
theorem kcW9 : SizeN 1 (kthL 9) 1 [0] 1 [(9 : Nat)] := qbm9 (by kernel_rfl)
theorem wep9 {X : Type} {step : X → Nat → X} {eqv : X → X → Bool} {A : Nat} (x0 : X) {N : Nat} (h : (stX step eqv A x0 N).1.length = N) (i : Nat) : (stX step eqv A x0 i).1.length ≤ N := by
 have hm : ∀ i d, (stX step eqv A x0 i).1.length ≤ (stX step eqv A x0 (i + d)).1.length := fun i d => by
  induction d with
  | zero => exact l'f _
  | succ d ih => exact n'j ih (zcF9 x0 (i + d))
 rcases Nat.le_total i N with q|q
 ·obtain ⟨d, rfl⟩ := Nat.exists_eq_add_of_le q;have := hm i d;omega
 ·obtain ⟨d, rfl⟩ := Nat.exists_eq_add_of_le q;rw [kbi9 x0 h d];omega
theorem qcX9 {A zr : Nat} {l : List RC} {c : Option Nat} {zs : Nat} {st : List Int} {cs : Option Nat} {za : Nat} {ac : List Int} {ca : Option Nat} (hsz : SizeN zr l zs st za ac) (hok : OkNv A (rowsV l) st ac) {x : Nf} (hx : nfOf (rowsV l) st ac = x) {N : Nat} (h256 : N ≤ 256) (hN : (detS x A N).length = N) : PC Tryz.prog G0 23 [nA A zr l c zs st cs za ac ca] (detG A x N) := by
 subst hx;refine qQ0 A zr l c zs st cs za ac ca hsz hok _ (fun M _ hM => ?_) ?_
 ·rw [show M = N from kbx9 _ hM hN]
 ·rintro ⟨i, hi⟩;have : (detS (nfOf (rowsV l) st ac) A i).length ≤ N := wep9 _ hN i;omega
theorem vdv9 {A zr : Nat} {l : List RC} {c : Option Nat} {zs : Nat} {st : List Int} {cs : Option Nat} {za : Nat} {ac : List Int} {ca : Option Nat} (hsz : SizeN zr l zs st za ac) (hok : OkNv A (rowsV l) st ac) {x : Nf} (hx : nfOf (rowsV l) st ac = x) {i : Nat} (hi : 256 < (detS x A i).length) : PC Tryz.prog G0 23 [nA A zr l c zs st cs za ac ca] (.tup [dA0, .int .i64 3]) := by
 subst hx;refine qQ0 A zr l c zs st cs za ac ca hsz hok _ (fun M hM2 hM => ?_) fun _ => rfl;have : (detS (nfOf (rowsV l) st ac) A i).length ≤ M := wep9 _ hM i;omega
theorem kdC9 : (detS (kN 8) 2 256).length = 256 := (wcW9 chk8 256).trans vdC9
theorem vep9 : 256 < (detS (kN 9) 2 130).length := by rw [wcW9 chk9 130, zep9]; omega
theorem kdv9 : PC Tryz.prog G0 23 [nA 2 1 (kthL 8) none 1 [0] (some 1) 1 [((8 : Nat) : Int)] (some 1)] (detG 2 (kN 8) 256) := qcX9 vcW9 zdZ9 rfl (l'f _) kdC9
theorem qdw9 : PC Tryz.prog G0 23 [nA 2 1 (kthL 9) none 1 [0] (some 1) 1 [((9 : Nat) : Int)] (some 1)] (.tup [dA0, .int .i64 3]) := vdv9 kcW9 xdZ9 rfl vep9
theorem wdZ9 {A : Nat} {R : List (List Nat)} {b : List Bool} (h : MinOf (fun s a => (R.getD s []).getD a 0) (fun s => b.getD s false) A R b) {N : Nat} (hl : R.length = N) (hA : 1 ≤ A ∧ A ≤ 16) (hn : N ≤ 256) {c ca : Option Nat} : PC Tryz.prog G0 25 [dA A 1 (dRow A R) c 1 b ca] (.tup [dA A 1 (dRow A R) (some N) 1 b (some N), .int .i64 0]) := by
 have hk := h.okD hA (by omega);obtain ⟨r, b', h1, _, h2⟩ := kdX9 (A := A) (l := dRow A R) (c := c) (ac := b) (ca := ca) hk.1 hk.2.1;rw [vdX9] at h1;obtain ⟨e1, e2⟩ := h1.one h;subst e1 e2;rw [hl] at h2;exact h2
theorem zcX9 : (detR (kN 8) 2 256).length = 256 := (wei9 (kN 8) 2 256 kdC9).len
theorem zdw9 : PC Tryz.prog G0 25 [dA 2 1 (dRow 2 (detR (kN 8) 2 256)) (some 256) 1 (detA (kN 8) 2 256) (some 256)] (.tup [dA 2 1 (dRow 2 (detR (kN 8) 2 256)) (some 256) 1 (detA (kN 8) 2 256) (some 256), .int .i64 0]) := wdZ9 kth_self zcX9 ⟨by omega, by omega⟩ (by omega)
def wn0 (n : Nat) : List LC := (List.range n).map fun s => ([(((s + 1) % 256 : Nat) : Int)], some 1)
def qF0 (n : Nat) : List Bool := (List.range n).map fun s => s == 255
def ringB : List Bool := (List.range 256).map fun s => s == 255 || s == 127
theorem xcX9 : OkDv 1 (kd0 (wn0 256)) 256 := by
 obtain ⟨A, h1, h2⟩ := qV0 (sym := 1) (rows := kd0 (wn0 256)) (m := 256) (by kernel_rfl);obtain rfl : A = 1 := by omega
 exact h2
theorem xM0 (n : Nat) : (qF0 n).length = n := by simp [qF0]
theorem wM0 (n : Nat) : (wn0 n).length = n := by simp [wn0]
theorem vE0 : ringB.length = 256 := by simp [ringB]
theorem wcb9 {r : LC} {n : Nat} (h : r ∈ wn0 n) : r.1.length = 1 := by
 obtain ⟨s, _, rfl⟩ := l'B.1 h;rfl
theorem xdw9 : ((List.range 256).all fun s => dlt (wn0 256) s 0 == (s + 1) % 256) = true := by kernel_rfl
theorem wcX9 {s : Nat} (h : s < 256) : dlt (wn0 256) s 0 = (s + 1) % 256 := by
 have := xdw9;simp only [l'j, l'o, beq_iff_eq] at this;exact this s h
theorem ku0 : ∀ (k s : Nat), s < 256 → runX (dlt (wn0 256)) s (List.replicate k 0) = (s + k) % 256
 | 0, s, h => by rw [Nat.add_zero, l'U h]; rfl
 | k + 1, s, h => by
  rw [List.replicate_succ];show runX (dlt (wn0 256)) (dlt (wn0 256) s 0) (List.replicate k 0) = _;rw [wcX9 h, ku0 k _ (n'n _ (by omega))];omega
theorem vcX9 {w : List Nat} (h : InA 1 w) : w = List.replicate w.length 0 := List.eq_replicate_iff.2 ⟨rfl, fun a ha => by have := h a ha; omega⟩
theorem qdD9 (k : Nat) : InA 1 (List.replicate k 0) := fun a ha => by rw [(List.mem_replicate.1 ha).2]; omega
theorem wcq9 : vaK9 (dlt (wn0 256)) (fun s => (qF0 256).getD s false) 1 eqX := fun v w hv hw => by
 rw [vcX9 hv, vcX9 hw, ku0 _ 0 (by omega), ku0 _ 0 (by omega), eqX, decide_eq_true_eq];have h1 := n'n (0 + v.length) (show 256 > 0 by omega);have h2 := n'n (0 + w.length) (show 256 > 0 by omega);generalize (0 + v.length) % 256 = m at *;generalize (0 + w.length) % 256 = m' at *;refine ⟨fun q u _ => by rw [q], fun h => ?_⟩;have hg : ∀ s, s < 256 → (qF0 256).getD s false = (s == 255) := fun s hs => by simp [qF0, l'b, hs]
 have := h (List.replicate (255 - m) 0) (qdD9 _);simp only [ku0 _ m h1, ku0 _ m' h2] at this;rw [hg _ (n'n _ (by omega)), hg _ (n'n _ (by omega)), show (m + (255 - m)) % 256 = 255 by omega] at this;have := (beq_iff_eq (a := (m' + (255 - m)) % 256) (b := 255)).1 (by rw [← this]; rfl);omega
def vcq9 (s t : Nat) : Bool := decide (s % 128 = t % 128)
theorem kcq9 : vaK9 (dlt (wn0 256)) (fun s => ringB.getD s false) 1 vcq9 := fun v w hv hw => by
 rw [vcX9 hv, vcX9 hw, ku0 _ 0 (by omega), ku0 _ 0 (by omega), vcq9, decide_eq_true_eq];have h1 := n'n (0 + v.length) (show 256 > 0 by omega);have h2 := n'n (0 + w.length) (show 256 > 0 by omega);generalize (0 + v.length) % 256 = m at *;generalize (0 + w.length) % 256 = m' at *;have hg : ∀ s, s < 256 → ringB.getD s false = decide (s % 128 = 127) := fun s hs => by
  have : ringB.getD s false = (s == 255 || s == 127) := by simp [ringB, l'b, hs]
  rw [this, l'u, l'H, beq_iff_eq, beq_iff_eq, decide_eq_true_eq];omega
 refine ⟨fun q u hu => ?_, fun h => ?_⟩
 ·rw [vcX9 hu];simp only [ku0 _ m h1, ku0 _ m' h2];rw [hg _ (n'n _ (by omega)), hg _ (n'n _ (by omega)), l'u, decide_eq_true_eq, decide_eq_true_eq];omega
 ·have := h (List.replicate (255 - m) 0) (qdD9 _);simp only [ku0 _ m h1, ku0 _ m' h2] at this;rw [hg _ (n'n _ (by omega)), hg _ (n'n _ (by omega)), l'u, decide_eq_true_eq, decide_eq_true_eq] at this;omega
def ringRA : List (List Nat) := (stX (dlt (wn0 256)) eqX 1 0 256).2
def ringRB : List (List Nat) := (stX (dlt (wn0 256)) vcq9 1 0 128).2
def kcX9 : List Bool := (stX (dlt (wn0 256)) eqX 1 0 256).1.map fun s => (qF0 256).getD s false
def ringXB : List Bool := (stX (dlt (wn0 256)) vcq9 1 0 128).1.map fun s => ringB.getD s false
theorem qcY9 : (stX (dlt (wn0 256)) eqX 1 0 256).1.length = 256 := by kernel_rfl
theorem zbO9 : (stX (dlt (wn0 256)) vcq9 1 0 128).1.length = 128 := by kernel_rfl
theorem zcY9 : ringRA.length = 256 := vA0 _ _ _ _ _ (by rw [qcY9]; omega)
theorem xcY9 : ringRB.length = 128 := vA0 _ _ _ _ _ (by rw [zbO9]; omega)
theorem vdZ9 : ringXB.getD 127 false = true := by kernel_rfl
theorem xbc9 : ringXB.length = 128 := by rw [ringXB, l'w, zbO9]
theorem vbB9 {ac : List Bool} (h : ac.length = 256) : SizeD 1 (wn0 256) 1 ac := zB0 (by rw [wM0]; omega) (by omega) fun r hr => by rw [wcb9 hr]; omega
theorem wdw9 (b : List Bool) : ((qb0 b).map fun e => e.map hdA) = qb0 b := by
 unfold qb0;rw [n'k]; rfl
def dW (A : Nat) (R : List (List Nat)) (b : List Bool) (N : Nat) : AV := .agg [.int .i64 A, .sl 1 ((rowL (dRow A R)).map fun e => e.map hdA) (some N), .sl 1 (qb0 b) (some N)]
theorem vdw9 {A : Nat} {l : List LC} {c : Option Nat} {ac : List Bool} {ca : Option Nat} (hok : OkDv A (kd0 l) ac.length) (hsz : SizeD 1 l 1 ac) : ∃ (r : List (List Nat)) (b : List Bool), MinOf (dlt l) (fun s => ac.getD s false) A r b ∧
  PCW Tryz.prog G0 25 [dA A 1 l c 1 ac ca] (.tup [dW A r b r.length, .int .i64 0]) := by
 have hn1 := hok.n1;rw [ve0] at hn1;obtain ⟨M, _, hM, _⟩ := zbJ9 (step := dlt l) (eqv := eqX) (A := A) 0 l.length (wan9 hok eqX kZ0);have hne : (stX (dlt l) eqX A 0 M).1 ≠ [] := fun q => by
  have := wO0 (step := dlt l) (eqv := eqX) (A := A) 0 M;rw [q] at this; cases this
 obtain ⟨K, _, hK, hKl⟩ := waK9 (δ := dlt l) (acc := fun s => ac.getD s false) (A := A) hne;have hmin := kaK9 (δ := dlt l) (acc := fun s => ac.getD s false) (A := A) M hM K hK;have hP := (waZ9 A l c ac ca hok hsz M hM K hK hKl).2;refine ⟨_, _, hmin, ?_⟩;rw [qdS9, wdw9] at hP;have e : (wr0 (dlt l) A (clK (dlt l) (fun s => ac.getD s false) A (stX (dlt l) eqX A 0 M).1 (K + 2)) (firsts (vf0 (dlt l) (fun s => ac.getD s false) A (stX (dlt l) eqX A 0 M).1 (K + 1)) (stX (dlt l) eqX A 0 M).1)).length = cntK (dlt l) (fun s => ac.getD s false) A (stX (dlt l) eqX A 0 M).1 (K + 1) := by rw [wr0, l'w, ← vz0]
 rw [e];exact hP
theorem wcY9 {A : Nat} {l : List LC} {ac : List Bool} (hok : OkDv A (kd0 l) ac.length) (hsz : SizeD 1 l 1 ac) {R : List (List Nat)} {b : List Bool} (h : MinOf (dlt l) (fun s => ac.getD s false) A R b) {N : Nat} (hl : R.length = N) {c ca : Option Nat} : PCW Tryz.prog G0 25 [dA A 1 l c 1 ac ca] (.tup [dW A R b N, .int .i64 0]) := by
 obtain ⟨r, b', h1, h2⟩ := vdw9 (A := A) (l := l) (c := c) (ac := ac) (ca := ca) hok hsz;obtain ⟨e1, e2⟩ := h1.one h;subst e1 e2;rw [hl] at h2;exact h2
theorem kdZ9 {c ca : Option Nat} : PCW Tryz.prog G0 25 [dA 1 1 (wn0 256) c 1 (qF0 256) ca] (.tup [dW 1 ringRA kcX9 256, .int .i64 0]) :=
 wcY9 (A := 1) (by rw [xM0]; exact xcX9) (vbB9 (xM0 _)) ⟨eqX, 256, wcq9, qcY9, rfl, rfl⟩ zcY9
theorem qea9 {c ca : Option Nat} : PCW Tryz.prog G0 25 [dA 1 1 (wn0 256) c 1 ringB ca] (.tup [dW 1 ringRB ringXB 128, .int .i64 0]) :=
 wcY9 (A := 1) (by rw [vE0]; exact xcX9) (vbB9 vE0) ⟨vcq9, 128, kcq9, zbO9, rfl, rfl⟩ xcY9
def ringM : List LC := wn0 256 ++ [([0], some 1)]
theorem vW0 : ringM.length = 257 := by simp [ringM, wM0]
theorem vcY9 : vd0 1 (kd0 ringM) 257 = 3 := by
 unfold vd0;rw [if_pos (.inr (by rw [ve0, vW0]; omega))]
theorem xbO9 {b : List Bool} (hb : b.length = 257) {c ca : Option Nat} : PC Tryz.prog G0 21 [dA 1 1 ringM c 1 b ca] (.int .i64 3) := by
 have hs : SizeD 1 ringM 1 b := zB0 (by rw [vW0]; omega) (by omega) fun r hr => by
  rcases l'D.1 hr with q|q
  ·rw [wcb9 q]; omega
  ·rw [l'N.1 q]; decide
 have h := hs.check (sym := 1) (c := c) (ca := ca);rw [hb, vcY9] at h;exact h
theorem kdw9 : PC Tryz.prog G0 21 [dA 17 0 [] (some 0) 0 [] (some 0)] (.int .i64 3) := by
 have hs : SizeD 0 [] 0 [] := by constructor <;> first|exact .inl rfl|simp
 exact hs.check (sym := 17) (c := some 0) (ca := some 0)
theorem qdx9 : PC Tryz.prog G0 20 [nA 0 0 [] (some 0) 0 [] (some 0) 0 [] (some 0)] (.int .i64 1) := by
 have hs : SizeN 0 [] 0 [] 0 [] := by constructor <;> first|exact .inl rfl|simp
 exact hs.check (sym := 0) (c := some 0) (cs := some 0) (ca := some 0)
def kbB9 : Nf := nfOf (rowsV []) [] []
theorem zdx9 : (detS kbB9 16 1).length = 1 := by kernel_rfl
theorem xdx9 : detA kbB9 16 1 = [false] := by kernel_rfl
theorem kep9 : (detR kbB9 16 1).length = 1 := by kernel_rfl
theorem wdx9 : PC Tryz.prog G0 23 [nA 16 0 [] (some 0) 0 [] (some 0) 0 [] (some 0)] (.tup [dA 16 1 (dRow 16 (detR kbB9 16 1)) (some 1) 1 [false] (some 1), .int .i64 0]) := by
 have hs : SizeN 0 [] 0 [] 0 [] := by constructor <;> first|exact .inl rfl|simp
 have hok : OkNv 16 (rowsV []) [] [] := by
  obtain ⟨A, h1, h2⟩ := wK0 (sym := 16) (rows := rowsV []) (st := []) (ac := []) (by kernel_rfl);obtain rfl : A = 16 := by omega
  exact h2
 have h := qcX9 (c := some 0) (cs := some 0) (ca := some 0) hs hok (x := kbB9) rfl (by omega) zdx9;rw [detG, xdx9] at h;exact h
def oneL : List RC := [([([0], some 1)], some 1)]
theorem vdx9 : PC Tryz.prog G0 9 [nA 1 1 oneL (some 1) 1 [0] (some 1) 0 [] (some 0)] (.tup [nA 1 1 [] (some 0) 1 [] (some 0) 1 [] (some 0), .int .i64 0]) := by
 have hs : SizeN 1 oneL 1 [0] 1 [] := qbm9 (by kernel_rfl);have hok : OkNv 1 (rowsV oneL) [0] [] := by
  obtain ⟨A, h1, h2⟩ := wK0 (sym := 1) (rows := rowsV oneL) (st := [0]) (ac := []) (by kernel_rfl);obtain rfl : A = 1 := by omega
  exact h2
 have h := veD9 1 oneL (some 1) [0] (some 1) [] (some 0) hs hok;have hk : xdt9 1 oneL [0] [] = [] := by kernel_rfl
 rw [hk] at h;have e : vdY9 1 oneL [] [0] [] = nA 1 1 [] (some 0) 1 [] (some 0) 1 [] (some 0) := by kernel_rfl
 rw [e] at h;exact xbS9 h (by simp [nzL, nz, nA, ints, nzE])
theorem kcY9 (e : List AV) : ∀ n, nzE (List.replicate n e) = List.replicate n (nzL e)
 | 0 => rfl
 | n + 1 => by rw [List.replicate_succ, List.replicate_succ, nzE, kcY9 e n]
theorem qcZ9 : PC Tryz.prog G0 4 [.agg [.int .i64 17, .sl 1 (List.replicate 257 [.sl 0 [] (some 0)]) (some 257), .sl 0 [] (some 0), .sl 0 [] (some 0)], .agg [.int .i64 0, .sl 0 [] (some 0), .sl 0 [] (some 0)], .sl 1 (ints (List.replicate 257 0)) (some 257)] (.bool true) := by
 have hN : SizeN 1 (List.replicate 257 (([], some 0) : RC)) 1 [] 1 [] := qbm9 (by kernel_rfl);have hD : SizeD 1 [] 1 [] := by constructor <;> first|exact .inl rfl|simp
 have e : xe0 (List.replicate 257 (([], some 0) : RC)) = List.replicate 257 [.sl 1 [] (some 0)] := by simp only [xe0, List.map_replicate]; rfl
 have h := law4 17 _ (some 257) [] (some 0) [] (some 0) hN 0 [] (some 0) [] (some 0) hD (List.replicate 257 0) (some 257) (by simp);unfold nA dA at h;rw [e] at h;refine xbS9 h ?_;simp only [nzL, nz, kcY9, ints, rowL, qb0, List.map_nil, nzE, List.isEmpty_replicate];rfl
theorem kdx9 : PC Tryz.prog G0 30 [dA 2 1 (dRow 2 (detR (kN 8) 2 256)) (some 256) 1 (detA (kN 8) 2 256) (some 256), dA 2 1 (dRow 2 (detR (kN 8) 2 256)) (some 256) 1 (detA (kN 8) 2 256) (some 256)] (.int .i64 1) := by
 have hd : (detR (kN 8) 2 256).length = 256 := zcX9;have hz := (kth_self.okD ⟨by omega, by omega⟩ (by omega)).2.1;have hb : (detA (kN 8) 2 256).length = 256 := by rw [kth_self.shape.2.1, hd]
 have hl : (dRow 2 (detR (kN 8) 2 256)).length = 256 := by rw [vP0, hd]
 have h := waL9 2 1 (dRow 2 (detR (kN 8) 2 256)) (some 256) 1 (detA (kN 8) 2 256) (some 256) 2 1 (dRow 2 (detR (kN 8) 2 256)) (some 256) 1 (detA (kN 8) 2 256) (some 256) (.inr rfl) (.inr rfl) (.inr rfl) (.inr rfl) (by omega) (by omega) (by omega) (by omega) hz.br hz.br;rw [if_pos ⟨rfl, rfl, rfl⟩] at h;exact h
theorem mk27 {n : Nat} {s : Nat → AV} {H : List Blk} : Made Tryz.prog (.makeSlice 27 (.const (.int .i64 257)) (.const (.int .i64 257))) (evS G0 n s) H (.sl 1 (ints (List.replicate 257 0)) (some 257)) := by
 have h := xaV9 (G := G0) (n := n) (s := s) (H := H) (k1 := .i64) (k2 := .i64) (l := 257) (c := 257) ti27 rfl ti3 rfl (by decide) (by decide) (by decide) (by decide);rw [show ints (List.replicate 257 0) = List.replicate 257 [AV.int .i64 0] by simp [ints]]; exact h
theorem mk26 {n : Nat} {s : Nat → AV} {H : List Blk} : Made Tryz.prog (.makeSlice 26 (.const (.int .i64 257)) (.const (.int .i64 257))) (evS G0 n s) H (.sl 1 (List.replicate 257 [.sl 0 [] (some 0)]) (some 257)) :=
 xaV9 (G := G0) (n := n) (s := s) (H := H) (k1 := .i64) (k2 := .i64) (l := 257) (c := 257) ti26 rfl ti44 rfl (by decide) (by decide) (by decide) (by decide)
theorem qcr9 (s : Nat) : rowL (wn0 (s + 1)) = rowL (wn0 s) ++ [[.sl 1 [[.int .i64 (((s + 1) % 256 : Nat) : Int)]] (some 1)]] := by
 simp [wn0, rowL, lC, ints, l'Z]
theorem zcr9 (s : Nat) : qb0 (qF0 (s + 1)) = qb0 (qF0 s) ++ [[.bool (s == 255)]] := by
 simp [qF0, qb0, l'Z]
theorem qeq9 : (qF0 256).set 127 true = ringB := by kernel_rfl
theorem ringM_row : rowL ringM = rowL (wn0 256) ++ [[.sl 1 [[.int .i64 0]] (some 1)]] := by
 simp [ringM, rowL, lC, ints]
theorem vaO9 {H : List Blk} {l : List LC} {b : List Bool} {n : Nat} (h2 : H[4]? = some (.row 1 27 (rowL l))) (h3 : H[5]? = some (.row 1 4 (qb0 b))) (hl : l.length = n) (hb : b.length = n) :
  ([.agg [.int .i64 1, .own 4 n n none, .own 5 n n none]] : List AV).all (okA H 1) = true ∧ ([.agg [.int .i64 1, .own 4 n n none, .own 5 n n none]] : List AV).map (xq0 H 1) = [dA 1 1 l none 1 b none] := by
 have hl1 : (rowL l).length = n := by rw [zb0, hl]
 have hl2 : (qb0 b).length = n := by rw [zc0, hb]
 have o1 : okC H 1 (.own 4 n n none) = true := zaV9 (c := none) h2 hl1.symm hl1.symm (vc0 _ _);have o2 : okC H 1 (.own 5 n n none) = true := zaV9 (c := none) h3 hl2.symm hl2.symm (zd0 _ _);have q1 : zh0 H 1 (.own 4 n n none) = .sl 1 (rowL l) none := vJ0 h2 hl1.symm hl1.symm;have q2 : zh0 H 1 (.own 5 n n none) = .sl 1 (qb0 b) none := vJ0 h3 hl2.symm hl2.symm;constructor
 ·simp only [List.all_cons, List.all_nil, okA, o1, o2, n'W]; rfl
 ·simp only [List.map_cons, List.map_nil, xq0, q1, q2]; rfl
theorem zea9 (B0 B1 B2 B3 : Blk) : wd0 Tryz.prog G0 25 [.agg [.int .i64 1, .own 4 256 256 none, .own 5 256 256 none]] [B0, B1, B2, B3, .row 1 27 (rowL (wn0 256)), .row 1 4 (qb0 (qF0 256))] (.tup [dW 1 ringRA kcX9 256, .int .i64 0]) [B0, B1, B2, B3, .row 1 27 (rowL (wn0 256)), .row 1 4 (qb0 (qF0 256))] :=
 have h := vaO9 (H := [B0, B1, B2, B3, .row 1 27 (rowL (wn0 256)), .row 1 4 (qb0 (qF0 256))]) rfl rfl (wM0 256) (xM0 256)
 vbS9 1 h.1 h.2 kdZ9
theorem xea9 (B0 B1 B2 B3 : Blk) : wd0 Tryz.prog G0 25 [.agg [.int .i64 1, .own 4 256 256 none, .own 5 256 256 none]] [B0, B1, B2, B3, .row 1 27 (rowL (wn0 256)), .row 1 4 (qb0 ringB)] (.tup [dW 1 ringRB ringXB 128, .int .i64 0]) [B0, B1, B2, B3, .row 1 27 (rowL (wn0 256)), .row 1 4 (qb0 ringB)] :=
 have h := vaO9 (H := [B0, B1, B2, B3, .row 1 27 (rowL (wn0 256)), .row 1 4 (qb0 ringB)]) rfl rfl (wM0 256) vE0
 vbS9 1 h.1 h.2 qea9
theorem wea9 (B0 B1 B2 B3 : Blk) (T : List Blk) : wd0 Tryz.prog G0 21 [.agg [.int .i64 1, .own 4 257 257 none, .own 5 257 257 none]] (B0 :: B1 :: B2 :: B3 :: .row 1 27 (rowL ringM) :: .row 1 4 (qb0 (ringB ++ [false])) :: T) (.int .i64 3) (B0 :: B1 :: B2 :: B3 :: .row 1 27 (rowL ringM) :: .row 1 4 (qb0 (ringB ++ [false])) :: T) :=
 have hb : (ringB ++ [false]).length = 257 := by rw [l'v, vE0]; rfl
 have h := vaO9 (H := B0 :: B1 :: B2 :: B3 :: .row 1 27 (rowL ringM) :: .row 1 4 (qb0 (ringB ++ [false])) :: T) rfl rfl vW0 hb
 kbF9 1 h.1 h.2 (xbO9 hb) rfl
theorem zeq9 (RD BD W1 X1 W2 X2 RN : List (List AV)) (hRN : RN.length = 1) (s : Nat → AV) (a2 : s 2 = .int .i64 0) (a4 : s 4 = .int .i64 0) (a7 : s 7 = .ptr 3 0 0 1) (a10 : s 10 = .ptr 7 0 0 1) (a11 : s 11 = .ptr 8 0 0 1) :
  Go false Tryz.prog G0 0 196 (wq0 Tryz.f5) [0, 1, 1, 1, 1, 1, 1, 1, 1, 1, 1, 1, 1, 1, 1] (kai9 false Tryz.prog G0 0 196 (wq0 Tryz.f5) [1, 1, 1, 1, 1, 1, 1, 1, 1, 1, 1, 1, 1, 1, 1] (xaF9 Tryz.prog 196 [.tmp 0] 0 (.bool true))) True s [Blk.row 3 47 [[.int .i64 2, .sl 1 RD (some 256), .sl 1 BD (some 256)]], .row 3 47 [[.int .i64 1, .sl 1 W1 (some 256), .sl 1 X1 (some 256)]], .row 3 47 [[.int .i64 0, .sl 0 [] (some 0), .sl 0 [] (some 0)]], .row 3 47 [[.int .i64 1, .own 4 257 257 none, .own 5 257 257 none]], .row 1 27 (rowL ringM), .row 1 4 (qb0 (ringB ++ [false])), .row 3 47 [[.int .i64 1, .sl 1 W2 (some 128), .sl 1 X2 (some 128)]], .row 3 47 [[.int .i64 16, .sl 1 RN (some 1), .sl 1 [[.bool false]] (some 1)]], .row 4 29 [[.int .i64 1, .sl 1 [] (some 0), .sl 1 [] (some 0), .sl 1 [] (some 0)]]] := by
 have c17 : PC Tryz.prog G0 21 [.agg [.int .i64 17, .sl 0 [] (some 0), .sl 0 [] (some 0)]] (.int .i64 3) := kdw9;have cn : PC Tryz.prog G0 20 [.agg [.int .i64 0, .sl 0 [] (some 0), .sl 0 [] (some 0), .sl 0 [] (some 0)]] (.int .i64 1) := qdx9;have e4 := qcZ9;have p5 := law5 [97, 99, 99, 101, 112, 116, 111, 114, 32, 49, 54, 32, 48, 10] (by decide);have hlv := zaO9;have r21 := wea9;have m26 := fun n s H => mk26 (n := n) (s := s) (H := H);have m27 := fun n s H => mk27 (n := n) (s := s) (H := H);have i5 : ∀ p, idsE p (ints (List.replicate 257 0)) = true := fun p => wa0 _ _;have i6 : ∀ p, idsE p (List.replicate 257 [AV.sl 0 [] (some 0)]) = true := fun p => by
  generalize 257 = k;induction k with
  | zero => rfl
  | succ k ih => rw [List.replicate_succ, idsE, ih]; rfl
 have hMl : (rowL ringM).length = 257 := by rw [zb0, vW0]
 have hRMl : (qb0 (ringB ++ [false])).length = 257 := by rw [zc0, l'v, vE0]; rfl
 generalize ints (List.replicate 257 0) = Z27 at *;generalize List.replicate 257 [AV.sl 0 [] (some 0)] = Z26 at *;generalize qb0 (ringB ++ [false]) = RM at *;generalize rowL ringM = LM at *;refine kaE9 (dr := mxQ) rfl rfl mixed (by kernel_rfl) ?_;repeat' (first|(first|refine nav ?_|(refine g0_ ?_; first|refine dN (p := [0, 0, 1, 0, 0, 1, 0, 1, 1, 1, 1, 1, 1]) [(60, 7), (61, 60), (68, 7), (69, 68), (72, 71), (74, 7), (75, 7)] [(67, some 61), (73, some 69), (61, some 67), (69, some 73)] [] ?_|refine dN (p := [0, 1, 1, 1, 1, 1, 1, 1, 1, 1, 1, 1]) [(114, 7), (115, 114), (119, 7), (120, 119), (121, 0), (123, 7), (124, 7)] [(118, some 115), (122, some 120), (115, some 118), (120, some 122)] [] ?_|refine goD ?_))|(with_reducible first|refine gG ?_ ?_|refine ⟨fun h => ?_, fun h => ?_⟩ <;> try omega|refine andG ?_)|refine cl_ (r21 _ _ _ _ _) ?_|refine cp_ c17 ?_ (hi := by (simp [idsL, idsE, AV.ids, i5, i6]))|refine cp_ cn ?_ (hi := by (simp [idsL, idsE, AV.ids, i5, i6]))|refine cl_ (m26 _ _ _) ?_|refine cl_ (m27 _ _ _) ?_|refine cp_ e4 ?_ (hi := by (simp [idsL, idsE, AV.ids, i5, i6]))|refine cp_ p5 ?_ (hi := by (simp [idsL, idsE, AV.ids, i5, i6]))|refine cp_ hlv ?_ (hi := by (simp [idsL, idsE, AV.ids, i5, i6]))|simp (disch := try exact qa0) only [push_cast, simprocAttr, a2, a4, a7, a10, a11, hRN, hMl, hRMl, mxQ])
end Go.Proofs
