import Derived.Test.YtcoakjnmnommpaaGreatDoorA55
import Derived.Test.YtcoakjnmnommpaaGreatDoorA30
import Derived.Test.YtcoakjnmnommpaaGreatDoorZ13
import Derived.Test.YtcoakjnmnommpaaGreatDoorA37
import Derived.Test.YtcoakjnmnommpaaGreatDoorZ14
import Derived.Test.YtcoakjnmnommpaaGreatDoorA35
namespace Go.Proofs
open Go Go.V Go.RowKit
set_option linter.unusedVariables false
set_option linter.unusedSimpArgs false
set_option maxHeartbeats 0
set_option maxRecDepth 100000
theorem zcb9 : SizeD 1 [] 1 [] := zB0 (by decide) (by decide) (fun r hr => by cases hr)
theorem kbb9 : PC Tryz.prog G0 30 [dA0, dA0] (.int .i64 1) :=
 xbS9 (wdC9 (A := 0) (B := 0) (c := some 0) (ca := some 0) (c' := some 0) (cb := some 0) zcb9 zcb9 (by decide) rfl rfl rfl) rfl
theorem vbl9 {tx : Bs} {A : Int} {rows : List (List Int × Bool)} (h : qr0 tx = some (A, rows)) : rows.length ≤ tx.length + 1 ∧ ∀ r ∈ rows, r.1.length ≤ tx.length := by
 unfold qr0 at h;split at h
 ·have hL := zq0 10 tx.dropLast;have hP := qp0 10 tx.dropLast;have hd : tx.dropLast.length ≤ tx.length := by rw [List.length_dropLast]; omega
  unfold kQ0 at h;split at h
  ·cases h
  ·split at h
   ·split at h
    ·cases h
    ·rename_i rows' hr;simp only [Option.some.injEq, Prod.mk.injEq] at h;obtain ⟨_, rfl⟩ := h;refine ⟨?_, kaA9 hr fun f hf => n'j (hP f (List.mem_of_mem_tail hf)) hd⟩;rw [zao9 hr, List.length_tail]; omega
   ·cases h
 ·cases h
theorem law5 (tx : Bs) (hl : tx.length ≤ 9223372036854775807) : PC Tryz.prog G0 31 [.str tx] (.bool true) := by
 have hP := xbl9 tx;have hlv := zaO9;by_cases h1 : 65536 < tx.length
 ·rw [parV, if_pos h1] at hP;have h1' : (65536 : Int) < tx.length := by omega
  unfold dA0 at hP;refine qc0 0 64 [.tmp 2] Tryz.func31 rfl rfl rfl (by simp) ?_;intro s ⟨a0, hz⟩;clear hz;repeat' (first|(refine nv ?_ <;> (try simp (disch := try exact qa0) only [push_cast, simprocAttr, a0, h1']))|(with_reducible first|refine gG ?_ ?_|refine ⟨fun h => ?_, fun h => ?_⟩ <;> try omega|refine andG ?_)|refine cp_ hP ?_|refine cp_ hlv ?_|simp (disch := try exact qa0) only [push_cast, simprocAttr, a0, h1'])
 ·have h1' : ¬ (65536 : Int) < tx.length := by omega
  rw [parV, if_neg h1] at hP;by_cases h2 : 500 < tx.length
  ·have h2' : (500 : Int) < tx.length := by omega
   cases hp : qr0 tx with
   | none =>
    rw [hp, parO] at hP;unfold dA0 at hP;refine qc0 0 64 [.tmp 2] Tryz.func31 rfl rfl rfl (by simp) ?_;intro s ⟨a0, hz⟩;clear hz;repeat' (first|(refine nv ?_ <;> (try simp (disch := try exact qa0) only [push_cast, simprocAttr, a0, h1', h2']))|(with_reducible first|refine gG ?_ ?_|refine ⟨fun h => ?_, fun h => ?_⟩ <;> try omega|refine andG ?_)|refine cp_ hP ?_|refine cp_ hlv ?_|simp (disch := try exact qa0) only [push_cast, simprocAttr, a0, h1', h2'])
   | some y =>
    obtain ⟨A, rows⟩ := y;rw [hp, parO] at hP;have hid1 : ∀ p, idsE p (rowL (lcP rows)) = true := fun p => vc0 _ _;have hid2 : ∀ p, idsE p (qb0 (acP rows)) = true := fun p => zd0 _ _;by_cases hc : vd0 A (kd0 (lcP rows)) rows.length = 0
    ·rw [if_neg (by rw [hc]; simp)] at hP;unfold dA at hP;generalize rowL (lcP rows) = e1 at *;generalize qb0 (acP rows) = e2 at *;refine qc0 0 64 [.tmp 2] Tryz.func31 rfl rfl rfl (by simp) ?_;intro s ⟨a0, hz⟩;clear hz;repeat' (first|(refine nv ?_ <;> (try simp (disch := try exact qa0) only [push_cast, simprocAttr, a0, h1', h2']))|(with_reducible first|refine gG ?_ ?_|refine ⟨fun h => ?_, fun h => ?_⟩ <;> try omega|refine andG ?_)|refine cp_ hP ?_ (hi := by (simp [idsL, idsE, AV.ids, hid1, hid2]))|refine cp_ hlv ?_ (hi := by (simp [idsL, idsE, AV.ids, hid1, hid2]))|simp (disch := try exact qa0) only [push_cast, simprocAttr, a0, h1', h2'])
    ·rw [if_pos hc] at hP;unfold dA0 at hP;generalize vd0 A (kd0 (lcP rows)) rows.length = e at *;refine qc0 0 64 [.tmp 2] Tryz.func31 rfl rfl rfl (by simp) ?_;intro s ⟨a0, hz⟩;clear hz;repeat' (first|(refine nv ?_ <;> (try simp (disch := try exact qa0) only [push_cast, simprocAttr, a0, h1', h2']))|(with_reducible first|refine gG ?_ ?_|refine ⟨fun h => ?_, fun h => ?_⟩ <;> try omega|refine andG ?_)|refine cp_ hP ?_|refine cp_ hlv ?_|simp (disch := try exact qa0) only [push_cast, simprocAttr, a0, h1', h2'])
  ·have h2' : ¬ (500 : Int) < tx.length := by omega
   have hQ := qcq9 tx (by omega);cases hp : qr0 tx with
   | none =>
    rw [hp] at hP hQ;rw [parO] at hP;rw [wW0] at hQ;have hS := kbb9;unfold dA0 at hP hQ hS;refine qc0 0 64 [.tmp 2] Tryz.func31 rfl rfl rfl (by simp) ?_;intro s ⟨a0, hz⟩;clear hz;repeat' (first|(refine nv ?_ <;> (try simp (disch := try exact qa0) only [push_cast, simprocAttr, a0, h1', h2']))|(with_reducible first|refine gG ?_ ?_|refine ⟨fun h => ?_, fun h => ?_⟩ <;> try omega|refine andG ?_)|refine cp_ hP ?_|refine cp_ hQ ?_|refine cp_ hS ?_|refine cp_ hlv ?_|simp (disch := try exact qa0) only [push_cast, simprocAttr, a0, h1', h2'])
   | some y =>
    obtain ⟨A, rows⟩ := y;rw [hp] at hP hQ;rw [parO] at hP;rw [wW0] at hQ;have hbd := vbl9 hp;have htx := zbK9 hp;by_cases hc : vd0 A (kd0 (lcP rows)) rows.length = 0
    ·rw [if_neg (by rw [hc]; simp)] at hP hQ;have hs1 := xcV9 (rows := rows) (by omega) (fun r hr => by have := hbd.2 r hr; omega);have hs2 := wcV9 (rows := rows) (by omega) (fun r hr => by have := hbd.2 r hr; omega);have hS := wdC9 (A := A) (B := A) (c := some rows.length) (ca := some rows.length) (c' := none) (cb := none) hs1 hs2 (by rw [xW0, qau9, xw0]; omega) rfl (weo9 rows).symm rfl;have hT := xcS9 A 1 (lcP rows) (some rows.length) 1 (acP rows) (some rows.length) hs1;rw [zcp9, if_neg (by rw [xw0, hc]; simp), xW0, xcq9, htx] at hT;have hid1 : ∀ p, idsE p (rowL (lcP rows)) = true := fun p => vc0 _ _;have hid3 : ∀ p, idsE p (rowL (lcN rows)) = true := fun p => vc0 _ _;have hid2 : ∀ p, idsE p (qb0 (acP rows)) = true := fun p => zd0 _ _;unfold dA at *;generalize rowL (lcP rows) = e1 at *;generalize rowL (lcN rows) = e3 at *;generalize qb0 (acP rows) = e2 at *;refine qc0 0 64 [.tmp 2] Tryz.func31 rfl rfl rfl (by simp) ?_;intro s ⟨a0, hz⟩;clear hz;repeat' (first|(refine nv ?_ <;> (try simp (disch := try exact qa0) only [push_cast, simprocAttr, a0, h1', h2']))|(with_reducible first|refine gG ?_ ?_|refine ⟨fun h => ?_, fun h => ?_⟩ <;> try omega|refine andG ?_)|refine cp_ hP ?_ (hi := by (simp [idsL, idsE, AV.ids, hid1, hid2, hid3]))|refine cp_ hQ ?_ (hi := by (simp [idsL, idsE, AV.ids, hid1, hid2, hid3]))|refine cp_ hS ?_ (hi := by (simp [idsL, idsE, AV.ids, hid1, hid2, hid3]))|refine cp_ hT ?_ (hi := by (simp [idsL, idsE, AV.ids, hid1, hid2, hid3]))|refine cp_ hlv ?_ (hi := by (simp [idsL, idsE, AV.ids, hid1, hid2, hid3]))|simp (disch := try exact qa0) only [push_cast, simprocAttr, a0, h1', h2'])
    ·rw [if_pos hc] at hP hQ;have hS := kbb9;unfold dA0 at hP hQ hS;generalize vd0 A (kd0 (lcP rows)) rows.length = e at *;refine qc0 0 64 [.tmp 2] Tryz.func31 rfl rfl rfl (by simp) ?_;intro s ⟨a0, hz⟩;clear hz;repeat' (first|(refine nv ?_ <;> (try simp (disch := try exact qa0) only [push_cast, simprocAttr, a0, h1', h2', hc]))|(with_reducible first|refine gG ?_ ?_|refine ⟨fun h => ?_, fun h => ?_⟩ <;> try omega|refine andG ?_)|refine cp_ hP ?_|refine cp_ hQ ?_|refine cp_ hS ?_|refine cp_ hlv ?_|simp (disch := try exact qa0) only [push_cast, simprocAttr, a0, h1', h2', hc])
section
variable {δ : Nat → Nat → Nat} {acc : Nat → Bool} {A : Nat}
theorem MinOf.shape {r : List (List Nat)} {b : List Bool} (h : MinOf δ acc A r b) : 1 ≤ r.length ∧ b.length = r.length ∧ (∀ q ∈ r, q.length = A) ∧ ∀ s, s < r.length → ∀ a, a < A → (r.getD s []).getD a 0 < r.length := by
 obtain ⟨e, N, q1, q2, rfl, rfl⟩ := h;have hs := xam9 q1 (zbj9 (δ := δ) (acc := acc) (A := A));rw [hs N] at q2 ⊢;have hr : (stX δ (eqW δ acc A) A 0 N).2.length = N := vA0 _ _ _ 0 N (by omega);have h0 : (stX δ (eqW δ acc A) A 0 N).1[0]? = some 0 := wO0 0 N;have hp := (l'c.1 h0).1;refine ⟨by omega, by rw [l'w, q2, hr], fun q hq => zau9 0 N q hq, fun s hs a ha => ?_⟩;rw [hr] at hs;obtain ⟨x, _, hx⟩ := vcj9 (step := δ) (eqv := eqW δ acc A) (A := A) kaz9 0 N (by omega) s hs;have := (hx a ha);omega
theorem MinOf.le {r : List (List Nat)} {b : List Bool} (h : MinOf δ acc A r b) {n : Nat} (hn : 0 < n) (hδ : ∀ s, s < n → ∀ a, a < A → δ s a < n) : r.length ≤ n := by
 obtain ⟨e, N, q1, q2, rfl, rfl⟩ := h;have hs := xam9 q1 (zbj9 (δ := δ) (acc := acc) (A := A));rw [hs N] at q2 ⊢;have hr : (stX δ (eqW δ acc A) A 0 N).2.length = N := vA0 _ _ _ 0 N (by omega);rw [hr, ← q2];refine xaf9 (eqv := eqW δ acc A) id n _ ?_ (fun s _ t _ e => by
  have : s = t := e;subst this; exact kaz9 s) (qK0 _ _ A 0 N)
 exact zaf9 δ (eqW δ acc A) A (P := fun s => s < n) 0 hn (fun s hs a ha => hδ s hs a ha) N
end
theorem vdX9 (A : Nat) (R : List (List Nat)) : dlt (dRow A R) = fun s a => (R.getD s []).getD a 0 := by
 funext s a; rw [dlt, xdW9]
theorem kdX9 {A : Nat} {l : List LC} {c : Option Nat} {ac : List Bool} {ca : Option Nat} (hok : OkDv A (kd0 l) ac.length) (hsz : SizeD 1 l 1 ac) : ∃ (r : List (List Nat)) (b : List Bool), MinOf (dlt l) (fun s => ac.getD s false) A r b ∧ r.length ≤ l.length ∧
  PC Tryz.prog G0 25 [dA A 1 l c 1 ac ca] (.tup [dA A 1 (dRow A r) (some r.length) 1 b (some r.length), .int .i64 0]) := by
 have hn1 := hok.n1;rw [ve0] at hn1;obtain ⟨M, _, hM, _⟩ := zbJ9 (step := dlt l) (eqv := eqX) (A := A) 0 l.length (wan9 hok eqX kZ0);have hne : (stX (dlt l) eqX A 0 M).1 ≠ [] := fun q => by
  have := wO0 (step := dlt l) (eqv := eqX) (A := A) 0 M;rw [q] at this; cases this
 obtain ⟨K, _, hK, hKl⟩ := waK9 (δ := dlt l) (acc := fun s => ac.getD s false) (A := A) hne;have hmin := kaK9 (δ := dlt l) (acc := fun s => ac.getD s false) (A := A) M hM K hK;have hP := wbz9 A l c ac ca hok hsz M hM K hK hKl;refine ⟨_, _, hmin, hmin.le (by omega) (fun s hs a ha => xcN9 hok hs ha), ?_⟩;rw [minG] at hP;have e : (wr0 (dlt l) A (clK (dlt l) (fun s => ac.getD s false) A (stX (dlt l) eqX A 0 M).1 (K + 2)) (firsts (vf0 (dlt l) (fun s => ac.getD s false) A (stX (dlt l) eqX A 0 M).1 (K + 1)) (stX (dlt l) eqX A 0 M).1)).length = cntK (dlt l) (fun s => ac.getD s false) A (stX (dlt l) eqX A 0 M).1 (K + 1) := by rw [wr0, l'w, ← vz0]
 rw [e];exact hP
theorem MinOf.okD {δ : Nat → Nat → Nat} {acc : Nat → Bool} {A : Nat} {r : List (List Nat)} {b : List Bool} (h : MinOf δ acc A r b) (hA : 1 ≤ A ∧ A ≤ 16) (hn : r.length ≤ 256) : OkDv A (kd0 (dRow A r)) b.length ∧ SizeD 1 (dRow A r) 1 b ∧ SizeD 1 (qcN9 r) 1 b := by
 obtain ⟨h1, h2, h3, h4⟩ := h.shape;refine ⟨by rw [veo9, h2]; exact keo9 hA h1 hn rfl h3 h4, zB0 (by rw [vP0]; omega) (by omega) (fun q hq => ?_), zB0 (by rw [zcN9]; omega) (by omega) (fun q hq => ?_)⟩
 ·obtain ⟨p, hp, rfl⟩ := l'B.1 hq;have := h3 p hp;simp only [kc0]; omega
 ·obtain ⟨p, hp, rfl⟩ := l'B.1 hq;have := h3 p hp;simp only [kc0]; omega
section
variable {A : Nat} {l : List RC} {st ac : List Int}
theorem vcV9 (A : Nat) (l : List RC) : rowsV (km0 A l) = (List.range l.length).map fun t => (List.range A).map fun a => intN (revG l t a) := by
 simp [rowsV, km0, rowV]
theorem vbN9 (A : Nat) (l : List RC) {t : Nat} (ht : t < l.length) : (rowsV (km0 A l)).getD t [] = (List.range A).map fun a => intN (revG l t a) := by
 rw [vcV9]; simp [ht]
theorem qdY9 (A : Nat) (l : List RC) {t a : Nat} (ht : t < l.length) (ha : a < A) : ((rowsV (km0 A l)).getD t []).getD a [] = intN (revG l t a) := by
 rw [vbN9 A l ht]; simp [ha]
theorem kcV9 (h : OkNv A (rowsV l) st ac) : OkNv A (rowsV (km0 A l)) ac st := by
 have hl : (rowsV (km0 A l)).length = (rowsV l).length := by rw [wb0, wb0, wE0]
 have hl2 : (rowsV l).length = l.length := wb0 l;refine ⟨h.a1, h.a2, by rw [hl]; exact h.n, by rw [hl]; exact h.ac, by rw [hl]; exact h.st, fun s hs => ?_, fun s a hs ha => ?_⟩
 ·rw [vbN9 A l (by omega)]; simp
 ·rw [qdY9 A l (by omega) ha, hl, hl2];exact vL0 _ _
theorem qcW9 (h : OkNv A (rowsV l) st ac) (hz : SizeN 1 l 1 st 1 ac) : SizeN 1 (km0 A l) 1 ac 1 st := by
 have hn := h.n;have h2 := h.a2;rw [wb0] at hn;refine ⟨.inr rfl, .inr rfl, .inr rfl, by rw [wE0]; omega, hz.bac, hz.bst, fun s hs => ?_, fun s a hs ha => ?_⟩
 ·rw [wE0] at hs;simp [km0, hs]; omega
 ·rw [wE0] at hs;have hA : a < A := by simpa [km0, hs] using ha
  have := kbY9 l s a;simp only [km0, l'b, l'p, n'e hs, Option.map_some, Option.getD_some, n'e hA, kc0];omega
end
theorem qab9 {K : List Nat} (hK : K.Nodup) {i : Nat} (hi : i < K.length) : K.idxOf (K.getD i 0) = i := by
 rw [l'b, l'e hi];exact hK.idxOf_getElem i hi
theorem qbc9 {A : Nat} {l : List RC} {st ac : List Int} (hok : OkNv A (rowsV l) st ac) {S : List Nat} (hF : FiltF l.length S) (t : Nat) : t ∈ outQ (sucL l) A S l.length ↔ vr0 (nfOf (rowsV l) st ac) A S t := by
 have hn : (nfOf (rowsV l) st ac).n = l.length := wb0 l;have hd : ∀ s a t, (nfOf (rowsV l) st ac).d s a t = true ↔ (lstC l s a).1.contains (t : Int) = true := fun s a t => by
  show ((List.getD (List.getD (rowsV l) s []) a []).contains (t : Int)) = true ↔ _;have : ((rowsV l).getD s []).getD a [] = (lstC l s a).1 := by
   simp only [rowsV, lstC, rowV, l'b, l'p];cases l[s]? with
   | none => simp
   | some r =>
    simp only [Option.map_some, Option.getD_some, l'p];cases hq : r.1[a]? with
    | none => simp [rowV, hq]
    | some q => simp [rowV, hq]
  rw [this]
 have hsu : ∀ s a t, s < l.length → a < A → ((nfOf (rowsV l) st ac).d s a t = true ↔ t ∈ sucL l s a) := fun s a t hs ha => by
  rw [hd, ← xbW9 (fun x hx => (qf0 (hok.lst hs ha) x hx).1), l'h]; rfl
 have hgrow := fun P hS hf => qao9 (f := sucL l) (A := A) (n := l.length) (S := S) (P := P) hS hf l.length;have hf : ∀ s, s < l.length → vr0 (nfOf (rowsV l) st ac) A S s → ∀ a, a < A → ∀ t ∈ sucL l s a, t < l.length ∧ vr0 (nfOf (rowsV l) st ac) A S t := fun s hs hr a ha t ht => by
  have htl := wdV9 hok hs ha t ht;exact ⟨htl, xaX9 _ A S s a t hr ha (by rw [hn]; exact htl) ((hsu s a t hs ha).2 ht) (by rw [hn]; exact hs)⟩
 have hS0 : vaQ9 l.length (vr0 (nfOf (rowsV l) st ac) A S) S := ⟨vat9 hF, fun t ht => hF.lt ht, fun t ht => ⟨[], (fun a ha => by cases ha), t, ht, rfl⟩⟩;have hg := hgrow _ hS0 hf;have hlen := qdt9 (f := sucL l) (A := A) (n := l.length) (S := S) (P := vr0 (nfOf (rowsV l) st ac) A S) hS0 hf l.length;refine vav9 (nfOf (rowsV l) st ac) A S (fun t => t ∈ outQ (sucL l) A S l.length) (zdt9 l.length) (fun s hs a ha t ht hd1 => ?_) hg.ok t;obtain ⟨j, hj, rfl⟩ := vbU9 hs;have hsl := hg.lt _ hs;exact waN9 (f := sucL l) (A := A) (S := S) l.length j (by omega) hj a ha t ((hsu _ a t hsl ha).1 hd1)
theorem zbc9 (x : Nf) (A : Nat) (S : List Nat) (t : Nat) : t ∈ wH0 x A S ↔ t < x.n ∧ vr0 x A S t := by
 unfold wH0;rw [l'T, l'o];simp
theorem zcW9 {A : Nat} {l : List RC} {st ac : List Int} (hok : OkNv A (rowsV l) st ac) : (List.range l.length).filter (fun t => (wH0 (nfOf (rowsV l) st ac) A (natL st)).contains t && (wH0 (nfOf (rowsV (km0 A l)) ac st) A (natL ac)).contains t) = xdt9 A l st ac := by
 have hF := was9 hok;have hn : (nfOf (rowsV l) st ac).n = l.length := wb0 l;rw [hn] at hF;have e : rowsV (rvN A l l.length) = rowsV (km0 A l) := by
  refine l'W ?_ fun i h1 h2 => ?_
  ·rw [wb0, wb0, zaN9, wE0]
  ·have hi : i < l.length := by rw [wb0, zaN9] at h1; exact h1
   have a1 := zbN9 A l hi;have a2 := vbN9 A l hi;rw [← a2, l'b, l'b, l'e h1, l'e h2] at a1;exact a1
 have h1 := qbc9 hok hF.1
 change ∀ t, t ∈ outQ (sucL l) A (natL st) l.length ↔ vr0 (nfOf (rowsV l) st ac) A (natL st) t at h1
 have h2 := fun t => qbc9 (xeo9 hok) (S := natL ac) (by rw [zaN9]; exact hF.2) t;rw [zaN9, e] at h2;have hn2 : (nfOf (rowsV (km0 A l)) ac st).n = l.length := by show (rowsV (km0 A l)).length = _; rw [wb0, wE0]
 rw [xdt9, kpK];refine n'u fun t ht => ?_;rw [l'o] at ht;rw [l'u, l'a, l'a, l'h, l'h, l'h, l'h, h1, h2, zbc9, zbc9, hn, hn2];exact ⟨fun q => ⟨q.1.2, q.2.2⟩, fun q => ⟨⟨ht, q.1⟩, ht, q.2⟩⟩
def numK (K : List Nat) (n : Nat) : Nat → List Int
 | 0 => List.replicate n 0
 | q + 1 => (numK K n q).set (K.getD q 0) q
theorem qaB9 (K : List Nat) (n : Nat) : ∀ q, (numK K n q).length = n
 | 0 => by simp [numK]
 | q + 1 => by rw [numK, List.length_set, qaB9 K n q]
theorem xcb9 {K : List Nat} {n : Nat} (hK : K.Nodup) (hlt : ∀ t ∈ K, t < n) : ∀ q, q ≤ K.length → ∀ i, i < q → (numK K n q).getD (K.getD i 0) 0 = (i : Int)
 | 0, _, i, hi => absurd hi (Nat.not_lt_zero i)
 | q + 1, hq, i, hi => by
  rw [numK, l'b, n'A];by_cases h : K.getD q 0 = K.getD i 0
  ·have e : q = i := by rw [← qab9 hK (i := q) (by omega), h, qab9 hK (by omega)]
   subst e;rw [if_pos rfl, if_pos (by rw [qaB9]; exact hlt _ (zdO9 (by omega)))];rfl
  ·have hne : i ≠ q := fun e => h (by rw [e]);rw [if_neg h, ← l'b];exact xcb9 hK hlt q (by omega) i (by omega)
theorem wdu9 {K : List Nat} {n : Nat} (hK : K.Nodup) (hlt : ∀ t ∈ K, t < n) (t : Nat) (ht : t ∈ K) : (numK K n K.length).getD t 0 = (K.idxOf t : Nat) := by
 obtain ⟨i, hi, rfl⟩ := vbU9 ht;rw [xcb9 hK hlt K.length (l'f _) i hi, qab9 hK hi]
def itF (n : Nat) (S T : List Nat) : List Nat := (List.range n).filter fun t => S.contains t && T.contains t
theorem vdu9 (n : Nat) (S T : List Nat) : FiltF n (itF n S T) := ⟨_, rfl⟩
theorem kdu9 {n : Nat} {S T : List Nat} (hS : FiltF n S) (hT : FiltF n T) (i : Nat) (hi : i < 4) : wP (pS S) i &&& wP (pS T) i = wP (pS (itF n S T)) i := by
 rw [kbw9 _ _ i hi];refine qaY9 (fun t ht => ?_) i;rw [l'u, l'a, pS, pS, pS, l'h, l'h, l'h, itF, l'T, l'o, l'a, l'h, l'h];exact ⟨fun h => ⟨hS.lt h.1, h⟩, fun h => h.2⟩
def smC (l : List RC) (K : List Nat) (i b : Nat) : List Nat := smL (natL (lstC l (K.getD i 0) b).1) K (natL (lstC l (K.getD i 0) b).1).length
def trF (l : List RC) (K : List Nat) (q a i b : Nat) : AV := if i < q ∨ (i = q ∧ b < a) then .sl 1 (ints (intN (smC l K i b))) (some (smC l K i b).length) else .sl 0 [] (some 0)
def trR (l : List RC) (K : List Nat) (A q a : Nat) : Nat → List (List AV) := fun i => qj0 (trF l K q a i) A
section
variable {l : List RC} {K : List Nat} {A q a : Nat}
theorem kbN9 (i : Nat) : (trR l K A q a i).length = A := kN0 _ _
theorem trR_zero : trR l K A 0 0 = fun _ => nils A := by
 funext i
 rw [trR, nils, wz0];exact xf0 fun b _ => by rw [trF, if_neg (by omega)]
theorem zdY9 : (trR l K A q a q).set a [.sl 1 (ints (intN (smC l K q a))) (some (smC l K q a).length)] = trR l K A q (a + 1) q := by
 rw [trR, wJ0, trR];refine xf0 fun b _ => ?_;unfold updF;by_cases h : b = a
 ·subst h; rw [if_pos rfl, trF, if_pos (by omega)]
 ·rw [if_neg h, trF, trF];split <;> split <;> first|rfl|(exfalso; omega)
theorem xdY9 (ha : a < A) : (trR l K A q a q).getD a [] = [.sl 0 [] (some 0)] := by rw [trR, qaf9 ha, trF, if_neg (by omega)]
theorem wdY9 (N : Nat) : qe0 1 27 (updF (trR l K A q a) q (trR l K A q (a + 1) q)) N = qe0 1 27 (trR l K A q (a + 1)) N := wt0 fun i _ => by
 unfold updF;by_cases h : i = q
 ·subst h; rw [if_pos rfl]
 ·rw [if_neg h, trR, trR];refine xf0 fun b _ => ?_;rw [trF, trF];split <;> split <;> first|rfl|(exfalso; omega)
theorem qdv9 (N : Nat) : qe0 1 27 (trR l K A q A) N = qe0 1 27 (trR l K A (q + 1) 0) N := wt0 fun i _ => by
 rw [trR, trR];refine xf0 fun b hb => ?_;rw [trF, trF];split <;> split <;> first|rfl|(exfalso; omega)
theorem xcW9 (i : Nat) (p : Nat → Bool) : idsE p (trR l K A q a i) = true := xci9 fun b _ => by
 rw [trF];split
 ·simp only [AV.ids]; exact wa0 _ _
 ·rfl
end
def tmC (A : Nat) (l : List RC) (K : List Nat) : List RC := (List.range K.length).map fun i => ((List.range A).map fun b => (intN (smC l K i b), some (smC l K i b).length), some A)
theorem zdv9 (A : Nat) (l : List RC) (K : List Nat) : qj0 (fun s => .sl 1 (trR l K A K.length 0 s) (some A)) K.length = xe0 (tmC A l K) := by
 rw [qj0, xe0, tmC, n'k];refine l'L fun i hi => ?_;rw [l'o] at hi;simp only [Function.comp, rC];congr 3
 rw [trR, qj0, rowL, n'k];refine l'L fun b hb => ?_;simp only [Function.comp, lC];rw [trF, if_pos (by omega)]
theorem wbB9 (g : Nat → List (List AV)) (N : Nat) (X Y : Blk) : (qe0 1 27 g N ++ [X]).set N Y = qe0 1 27 g N ++ [Y] := by
 rw [n'l _ _ (by rw [rf_len]; omega), rf_len, n's]; rfl
theorem xaO9 (g : Nat → List (List AV)) (N : Nat) (X : Blk) : (qe0 1 27 g N ++ [X]).length = N + 1 := by rw [l'v, rf_len]; rfl
theorem waO9 (g : Nat → List (List AV)) (N : Nat) (X : Blk) : (qe0 1 27 g N ++ [X])[N]? = some X := by rw [wbu9]; rfl
theorem xdv9 {H : List Blk} {l : List RC} {K : List Nat} {A : Nat} (hH : ∀ s, s < K.length → H[s + 12]? = some (.row 1 27 (trR l K A K.length 0 s))) : ((ownR 12 A (some A) K.length).map fun e => e.map (zh0 H 1)) = xe0 (tmC A l K) := by
 have h := vbu9 (H := H) (b0 := 12) (f := fun s => .own (s + 12) A A (some A)) (g := fun s => trR l K A K.length 0 s) (c := fun _ => some A) (N := K.length) (fun s _ => by rw [kbN9]) hH;rw [zdv9] at h;exact h
theorem weD9 {H : List Blk} {l : List RC} {K : List Nat} {A : Nat} (hH : ∀ s, s < K.length → H[s + 12]? = some (.row 1 27 (trR l K A K.length 0 s))) : ((ownR 12 A (some A) K.length).all fun e => e.all (okC H 1)) = true :=
 zcD9 (H := H) (b0 := 12) (f := fun s => .own (s + 12) A A (some A)) (g := fun s => trR l K A K.length 0 s) (c := fun _ => some A) (N := K.length) (fun s _ => by rw [kbN9]) hH fun s _ => xcW9 s _
end Go.Proofs
