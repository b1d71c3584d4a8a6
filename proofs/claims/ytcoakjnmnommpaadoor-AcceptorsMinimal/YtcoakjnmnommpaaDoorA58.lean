import Derived.Test.YtcoakjnmnommpaaDoorA54
import Derived.Test.YtcoakjnmnommpaaDoorA30
import Derived.Test.YtcoakjnmnommpaaDoorA32
import Derived.Test.YtcoakjnmnommpaaDoorA36
namespace Go.Proofs
open Go Go.V Go.RowKit
set_option linter.unusedVariables false
set_option linter.unusedSimpArgs false
set_option maxHeartbeats 0
section
variable {δ : Nat → Nat → Nat} {acc : Nat → Bool} {A : Nat}
theorem MinOf.shape {r : List (List Nat)} {b : List Bool} (h : MinOf δ acc A r b) : 1 ≤ r.length ∧ b.length = r.length ∧ (∀ q ∈ r, q.length = A) ∧ ∀ s, s < r.length → ∀ a, a < A → (r.getD s []).getD a 0 < r.length := by
 obtain ⟨e, N, q1, q2, rfl, rfl⟩ := h
 have hs := qac9 q1 (xac9 (δ := δ) (acc := acc) (A := A))
 rw [hs N] at q2 ⊢
 have hr : (stX δ (eqW δ acc A) A 0 N).2.length = N := kv0 _ _ _ 0 N (by omega)
 have h0 : (stX δ (eqW δ acc A) A 0 N).1[0]? = some 0 := zL0 0 N
 have hp := (List.getElem?_eq_some_iff.1 h0).1
 refine ⟨by omega, by rw [List.length_map, q2, hr], fun q hq => xw0 0 N q hq, fun s hs a ha => ?_⟩
 rw [hr] at hs
 obtain ⟨x, _, hx⟩ := qbS9 (step := δ) (eqv := eqW δ acc A) (A := A) zH0 0 N (by omega) s hs
 have := (hx a ha)
 omega
theorem MinOf.le {r : List (List Nat)} {b : List Bool} (h : MinOf δ acc A r b) {n : Nat} (hn : 0 < n) (hδ : ∀ s, s < n → ∀ a, a < A → δ s a < n) : r.length ≤ n := by
 obtain ⟨e, N, q1, q2, rfl, rfl⟩ := h
 have hs := qac9 q1 (xac9 (δ := δ) (acc := acc) (A := A))
 rw [hs N] at q2 ⊢
 have hr : (stX δ (eqW δ acc A) A 0 N).2.length = N := kv0 _ _ _ 0 N (by omega)
 rw [hr, ← q2]
 refine xG0 (eqv := eqW δ acc A) id n _ ?_ (fun s _ t _ e => by
  have : s = t := e
  subst this; exact zH0 s) (qy0 _ _ A 0 N)
 exact qL0 δ (eqW δ acc A) A (P := fun s => s < n) 0 hn (fun s hs a ha => hδ s hs a ha) N
end
theorem zcA9 (A : Nat) (R : List (List Nat)) : dlt (dRow A R) = fun s a => (R.getD s []).getD a 0 := by
 funext s a; rw [dlt, xcz9]
theorem xcW9 (R : List (List Nat)) : dlt (xl0 R) = fun s a => (R.getD s []).getD a 0 := by
 funext s a; rw [dlt, vcV9]
theorem xcA9 {A : Nat} {l : List LC} {c : Option Nat} {ac : List Bool} {ca : Option Nat} (hok : OkDv A (wf0 l) ac.length) (hsz : SizeD 1 l 1 ac) : ∃ (r : List (List Nat)) (b : List Bool), MinOf (dlt l) (fun s => ac.getD s false) A r b ∧ r.length ≤ l.length ∧
  PC Tryd.prog G0 21 [dA A 1 l c 1 ac ca] (.tup [dA A 1 (dRow A r) (some r.length) 1 b (some r.length), .int .i64 0]) := by
 have hn1 := hok.n1
 rw [qd0] at hn1
 obtain ⟨M, _, hM, _⟩ := xbu9 (step := dlt l) (eqv := eqX) (A := A) 0 l.length (kL0 hok eqX xab9)
 have hne : (stX (dlt l) eqX A 0 M).1 ≠ [] := fun q => by
  have := zL0 (step := dlt l) (eqv := eqX) (A := A) 0 M
  rw [q] at this; cases this
 obtain ⟨K, _, hK, hKl⟩ := zbv9 (δ := dlt l) (acc := fun s => ac.getD s false) (A := A) hne
 have hmin := wbv9 (δ := dlt l) (acc := fun s => ac.getD s false) (A := A) M hM K hK
 have hP := zbl9 A l c ac ca hok hsz M hM K hK hKl
 refine ⟨_, _, hmin, hmin.le (by omega) (fun s hs a ha => vbk9 hok hs ha), ?_⟩
 rw [minG] at hP
 have e : (xu0 (dlt l) A (clK (dlt l) (fun s => ac.getD s false) A (stX (dlt l) eqX A 0 M).1 (K + 2)) (firsts (we0 (dlt l) (fun s => ac.getD s false) A (stX (dlt l) eqX A 0 M).1 (K + 1)) (stX (dlt l) eqX A 0 M).1)).length = cntK (dlt l) (fun s => ac.getD s false) A (stX (dlt l) eqX A 0 M).1 (K + 1) := by rw [xu0, List.length_map, ← xy0]
 rw [e]
 exact hP
theorem wcW9 {A : Nat} {l : List LC} {c : Option Nat} {ac : List Bool} {ca : Option Nat} (hok : OkDv A (wf0 l) ac.length) : ∃ (r : List (List Nat)) (b : List Bool), MinOf (dlt l) (fun s => ac.getD s false) A r b ∧
  PC Tryd.prog G0 22 [dA A 1 l c 1 ac ca] (dA A 1 (xl0 r) none 1 b none) := by
 obtain ⟨N, _, hN, _⟩ := xbu9 (step := dlt l) (eqv := eqW (dlt l) (fun s => ac.getD s false) A) (A := A) 0 l.length (kL0 hok _ zH0)
 exact ⟨_, _, ⟨_, N, xac9, hN, rfl, rfl⟩, xcT9 A l c ac ca hok N hN⟩
theorem MinOf.okD {δ : Nat → Nat → Nat} {acc : Nat → Bool} {A : Nat} {r : List (List Nat)} {b : List Bool} (h : MinOf δ acc A r b) (hA : 1 ≤ A ∧ A ≤ 16) (hn : r.length ≤ 256) : OkDv A (wf0 (dRow A r)) b.length ∧ SizeD 1 (dRow A r) 1 b ∧ SizeD 1 (xl0 r) 1 b := by
 obtain ⟨h1, h2, h3, h4⟩ := h.shape
 refine ⟨by rw [qcz9, h2]; exact wda9 hA h1 hn rfl h3 h4, xP0 (by rw [xH0]; omega) (by omega) (fun q hq => ?_), xP0 (by rw [wE0]; omega) (by omega) (fun q hq => ?_)⟩
 ·obtain ⟨p, hp, rfl⟩ := List.mem_map.1 hq
  have := h3 p hp
  simp only [intN_len]; omega
 ·obtain ⟨p, hp, rfl⟩ := List.mem_map.1 hq
  have := h3 p hp
  simp only [intN_len]; omega
section
variable {A : Nat} {l : List RC} {st ac : List Int}
theorem wcA9 (A : Nat) (l : List RC) : rowsV (revRC A l) = (List.range l.length).map fun t => (List.range A).map fun a => intN (revG l t a) := by
 simp [rowsV, revRC, rowV]
theorem vcA9 (A : Nat) (l : List RC) {t : Nat} (ht : t < l.length) : (rowsV (revRC A l)).getD t [] = (List.range A).map fun a => intN (revG l t a) := by
 rw [wcA9]; simp [ht]
theorem kcA9 (A : Nat) (l : List RC) {t a : Nat} (ht : t < l.length) (ha : a < A) : ((rowsV (revRC A l)).getD t []).getD a [] = intN (revG l t a) := by
 rw [vcA9 A l ht]; simp [ha]
theorem zby9 (h : OkNv A (rowsV l) st ac) : OkNv A (rowsV (revRC A l)) ac st := by
 have hl : (rowsV (revRC A l)).length = (rowsV l).length := by rw [kb0, kb0, kt0]
 have hl2 : (rowsV l).length = l.length := kb0 l
 refine ⟨h.a1, h.a2, by rw [hl]; exact h.n, by rw [hl]; exact h.ac, by rw [hl]; exact h.st, fun s hs => ?_, fun s a hs ha => ?_⟩
 ·rw [vcA9 A l (by omega)]; simp
 ·rw [kcA9 A l (by omega) ha, hl, hl2]
  exact kj0 _ _
theorem qbn9 (h : OkNv A (rowsV l) st ac) (hz : SizeN 1 l 1 st 1 ac) : SizeN 1 (revRC A l) 1 ac 1 st := by
 have hn := h.n
 have h2 := h.a2
 rw [kb0] at hn
 refine ⟨.inr rfl, .inr rfl, .inr rfl, by rw [kt0]; omega, hz.bac, hz.bst, fun s hs => ?_, fun s a hs ha => ?_⟩
 ·rw [kt0] at hs
  simp [revRC, hs]; omega
 ·rw [kt0] at hs
  have hA : a < A := by simpa [revRC, hs] using ha
  have := wbI9 l s a
  simp only [revRC, List.getD_eq_getElem?_getD, List.getElem?_map, List.getElem?_range hs, Option.map_some, Option.getD_some, List.getElem?_range hA, intN_len]
  omega
theorem vbK9 (h : OkNv A (rowsV l) st ac) : SameF A (nfOf (rowsV (revRC A l)) ac st) (revN (nfOf (rowsV l) st ac)) := by
 have hl2 : (rowsV l).length = l.length := kb0 l
 refine ⟨by show (rowsV (revRC A l)).length = (rowsV l).length; rw [kb0, kb0, kt0], rfl, rfl, fun s a t hs ha ht => ?_⟩
 have hs : s < l.length := by
  have : s < (rowsV (revRC A l)).length := hs
  rwa [kb0, kt0] at this
 have ht : t < l.length := by
  have : t < (rowsV (revRC A l)).length := ht
  rwa [kb0, kt0] at this
 show (((rowsV (revRC A l)).getD s []).getD a []).contains (t : Int) = (((rowsV l).getD t []).getD a []).contains (s : Int)
 rw [kcA9 A l hs ha, vy0 l t ht, vO0 _ a (by rw [h.row ht]; exact ha), Bool.eq_iff_iff, List.contains_iff_mem, List.contains_iff_mem]
 simp only [intN, List.mem_map, revG, List.mem_filter, List.mem_range]
 constructor
 ·rintro ⟨t', ⟨_, q⟩, e⟩
  obtain rfl : t' = t := by omega
  exact List.contains_iff_mem.1 q
 ·intro q
  exact ⟨t, ⟨ht, List.contains_iff_mem.2 q⟩, rfl⟩
theorem qcB9 (h : OkNv A (rowsV l) st ac) : OkN (nfOf (rowsV l) st ac) := by
 refine ⟨fun q hq => ?_, fun q hq => ?_⟩
 ·obtain ⟨p, hp⟩ := (qaj9 h).1
  rw [hp] at hq
  exact List.mem_range.1 (List.mem_filter.1 hq).1
 ·obtain ⟨p, hp⟩ := (qaj9 h).2
  rw [hp] at hq
  exact List.mem_range.1 (List.mem_filter.1 hq).1
end
theorem vcW9 {A : Nat} {l : List LC} {ac : List Bool} {c' ca' cs' : Option Nat} {x : Nf} (hx : OkN x) {N2 : Nat} (hok : OkDv A (wf0 l) ac.length) (hl : vR0 l = detR (revN x) A N2) (ha : ac = detA (revN x) A N2) (hd : qaU9 (revN x) A N2)
  {R : List (List Nat)} {acc : Nat → Bool} {n : Nat} (hn : 0 < n) (hn2 : n ≤ 256) (hδ : ∀ s, s < n → ∀ a, a < A → (R.getD s []).getD a 0 < n) (hacc : ∀ w, InA A w → acc (runD R 0 w) = wL0 x w) {r : List (List Nat)} {b : List Bool} (hm : MinOf (fun s a => (R.getD s []).getD a 0) acc A r b) :
  PC Tryd.prog G0 11 [nA A 1 (revRC A (ofRC l l.length)) c' 1 (intN (accK ac l.length)) cs' 1 [0] ca'] (.tup [dA A 1 (dRow A r) (some r.length) 1 b (some r.length), .int .i64 0]) := by
 have h1 := kda9 hok ac
 have h2 := zby9 h1
 have hsz := qbn9 h1 (wbK9 hok ac)
 have hs1 := zcW9 hok ac
 rw [qd0, ← xbK9] at hs1
 have hs2 : SameF A (nfOf (rowsV (revRC A (ofRC l l.length))) (intN (accK ac l.length)) [0]) (zl0 x A N2) := by
  have e : ofD ((wf0 l).map natL) ac = ofD (detR (revN x) A N2) (detA (revN x) A N2) := by
   rw [show (wf0 l).map natL = vR0 l from rfl, hl, ha]
  rw [e] at hs1
  exact (vbK9 h1).trans hs1.rev
 have hS : ∀ s ∈ (nfOf (rowsV (revRC A (ofRC l l.length))) (intN (accK ac l.length)) [0]).S, s < (nfOf (rowsV (revRC A (ofRC l l.length))) (intN (accK ac l.length)) [0]).n := (qcB9 h2).s
 have hb := vbT9 (A := A) x hx N2 hd R acc n hn hδ hacc
 obtain ⟨M, hM1, hM2, hM3⟩ := kcN9 (A := A) (acc := acc) x hx N2 hd R hacc hm
 obtain ⟨hsh1, hsh2, _, _⟩ := hm.shape
 have hMr : r.length = M := by rw [← hsh2, hM3, detA, List.length_map, hM1]
 refine wad9 A 1 _ c' 1 _ cs' 1 _ ca' hsz h2 _ (fun N hN => ?_) ?_
 ·obtain ⟨e1, e2, e3⟩ := hs2.detEq hS N
  rw [e3] at hN
  have : N = M := qaz9 _ hN hM1
  subst this
  rw [detG, e1, e2, ← hM2, ← hM3, hMr]
 ·rintro ⟨i, hi⟩
  obtain ⟨_, _, e3⟩ := hs2.detEq hS i
  rw [e3] at hi
  have := hb i
  unfold detS at hi
  omega
end Go.Proofs
namespace Go.Proofs
open Go Go.V Go.RowKit
set_option linter.unusedVariables false
set_option linter.unusedSimpArgs false
set_option maxHeartbeats 0
set_option maxRecDepth 100000
theorem law7 (x : ND) (c : Option Nat) (hx : x.Ok) : PC Tryd.prog G0 7 [.agg (ndC x 3 c)] (.bool true) := by
 have hA := x.nN
 have hA16 : 1 ≤ x.A ∧ x.A ≤ 16 := by omega
 have hO := of9 x 3 c hx (.inr rfl)
 obtain ⟨N, hN, hN2, hD⟩ := qby9 (c := none) (cs := none) (ca := none) x.sizeN x.okN (by rw [x.rows_len]; omega)
 have hB := fun i => vaB9 (l := x.rows x.n) x.okN (by rw [x.rows_len]; omega) i
 have hE := vcQ9 x.A 1 (x.rows x.n) none (intN (bitS x.st x.n)) 1 (intN (bitS x.ac x.n)) none x.sizeN x.okN N hN2 hB
 clear hB
 change (detS x.nf x.A N).length = N at hN2
 change PC _ _ _ _ (detG x.A x.nf N) at hD
 change PC _ _ _ _ (detH x.A x.nf N) at hE
 obtain ⟨hok, hsz, hdl⟩ := qdb9 (x := x.nf) (A := x.A) hA16 hN hN2
 obtain ⟨hokN, hszN, hdlN⟩ := kdH9 (x := x.nf) (A := x.A) hA16 hN hN2
 have hdo := vbg9 x.nf x.A N hN2
 obtain ⟨r, b, hmin, hle, hM1⟩ := xcA9 (c := some N) (ca := some N) hok hsz
 rw [zcA9] at hmin
 have hrl : r.length ≤ 256 := by omega
 obtain ⟨hok2, hsz2, hsz3⟩ := hmin.okD hA16 hrl
 obtain ⟨r2, b2, hmin2, _, hM2⟩ := xcA9 (c := some r.length) (ca := some r.length) hok2 hsz2
 rw [zcA9] at hmin2
 obtain ⟨rfl, rfl⟩ := hmin2.one (vcN9 hmin)
 obtain ⟨r3, b3, hmin3, hM3⟩ := wcW9 (c := none) (ca := none) hokN
 rw [xcW9] at hmin3
 obtain ⟨rfl, rfl⟩ := hmin3.one hmin
 clear hmin2 hmin3
 have hbl := hmin.shape.2.1
 have hS1 := zdb9 (A := x.A) (B := x.A) (c := some r3.length) (ca := some r3.length) (c' := none) (cb := none) hsz2 hsz3 (by rw [xH0, wE0]; omega) rfl (by rw [qcz9, zcz9]) rfl
 have hS2 := zdb9 (A := x.A) (B := x.A) (c := some r3.length) (ca := some r3.length) (c' := some r3.length) (cb := some r3.length) hsz2 hsz2 (by rw [xH0]; omega) rfl rfl rfl
 have hR1 := vaA9 x.A 1 (x.rows x.n) none 1 (intN (bitS x.st x.n)) none 1 (intN (bitS x.ac x.n)) none x.sizeN x.okN
 obtain ⟨N2, hN3, hN4, hD2⟩ := qby9 (c := some (x.rows x.n).length) (cs := some (intN (bitS x.ac x.n)).length) (ca := some (intN (bitS x.st x.n)).length) (qbn9 x.okN x.sizeN) (zby9 x.okN) (by rw [kt0, x.rows_len]; omega)
 obtain ⟨e1, e2, e3⟩ := (vbK9 x.okN).detEq (qcB9 (zby9 x.okN)).s N2
 change _ = detR (revN x.nf) x.A N2 at e1
 change _ = detA (revN x.nf) x.A N2 at e2
 change _ = detS (revN x.nf) x.A N2 at e3
 rw [detG, e1, e2] at hD2
 rw [e3] at hN4
 clear e1 e2 e3
 obtain ⟨hok4, hsz4, hdl4⟩ := qdb9 (x := revN x.nf) (A := x.A) hA16 hN3 hN4
 have hF := wdp9 x.A 1 (dRow x.A (detR (revN x.nf) x.A N2)) (some N2) 1 (detA (revN x.nf) x.A N2) (some N2) hsz4
 rw [ofDV, if_neg (by rw [vbh9 hok4]; simp)] at hF
 have hR2 := vaA9 x.A 1 (ofRC (dRow x.A (detR (revN x.nf) x.A N2)) (dRow x.A (detR (revN x.nf) x.A N2)).length) (some (dRow x.A (detR (revN x.nf) x.A N2)).length) 1 [0] (some 1) 1 (intN (accK (detA (revN x.nf) x.A N2) (dRow x.A (detR (revN x.nf) x.A N2)).length)) (some (accK (detA (revN x.nf) x.A N2) (dRow x.A (detR (revN x.nf) x.A N2)).length).length) (wbK9 hok4 _) (kda9 hok4 _)
 have hD3 := vcW9 (c' := some (ofRC (dRow x.A (detR (revN x.nf) x.A N2)) (dRow x.A (detR (revN x.nf) x.A N2)).length).length) (cs' := some (intN (accK (detA (revN x.nf) x.A N2) (dRow x.A (detR (revN x.nf) x.A N2)).length)).length) (ca' := some 1) (qcB9 x.okN) hok4 (xcz9 _ _) rfl (vbg9 _ _ _ hN4) hdo.pos hN hdo.row hdo.acc hmin
 change PC _ _ _ _ (.tup [nA x.A 1 _ _ 1 _ _ 1 [0] (some 1), .int .i64 0]) at hR2
 have hlv := zdu9
 have hl5 : (rowL (dRow x.A r3)).length = r3.length := by rw [wb0, xH0]
 have hl6 : (vb0 b3).length = r3.length := by rw [xc0, hbl]
 unfold detG detH dA nA at *
 have hid1 : ∀ p, idsE p (kc0 (x.rows x.n)) = true := fun p => ke0 _ _
 have hid2 : ∀ p, idsE p (ints (intN (bitS x.st x.n))) = true := fun p => qb0 _ _
 have hid3 : ∀ p, idsE p (ints (intN (bitS x.ac x.n))) = true := fun p => qb0 _ _
 have hid4 : ∀ p, idsE p (rowL (xl0 (detR x.nf x.A N))) = true := fun p => qc0 _ _
 have hid5 : ∀ p, idsE p (rowL (dRow x.A (detR x.nf x.A N))) = true := fun p => qc0 _ _
 have hid6 : ∀ p, idsE p (vb0 (detA x.nf x.A N)) = true := fun p => zd0 _ _
 have hid7 : ∀ p, idsE p (rowL (dRow x.A r3)) = true := fun p => qc0 _ _
 have hid8 : ∀ p, idsE p (rowL (xl0 r3)) = true := fun p => qc0 _ _
 have hid9 : ∀ p, idsE p (vb0 b3) = true := fun p => zd0 _ _
 have hid10 : ∀ p, idsE p (kc0 (revRC x.A (x.rows x.n))) = true := fun p => ke0 _ _
 have hid11 : ∀ p, idsE p (qad9 x.arcs) = true := fun p => xaL9 _ _
 have hid12 : ∀ p, idsE p (rowL (dRow x.A (detR (revN x.nf) x.A N2))) = true := fun p => qc0 _ _
 have hid13 : ∀ p, idsE p (vb0 (detA (revN x.nf) x.A N2)) = true := fun p => zd0 _ _
 have hid14 : ∀ p, idsE p (kc0 (revRC x.A (ofRC (dRow x.A (detR (revN x.nf) x.A N2)) (dRow x.A (detR (revN x.nf) x.A N2)).length))) = true := fun p => ke0 _ _
 have hid15 : ∀ p, idsE p (kc0 (ofRC (dRow x.A (detR (revN x.nf) x.A N2)) (dRow x.A (detR (revN x.nf) x.A N2)).length)) = true := fun p => ke0 _ _
 have hid16 : ∀ p, idsE p (ints (intN (accK (detA (revN x.nf) x.A N2) (dRow x.A (detR (revN x.nf) x.A N2)).length))) = true := fun p => qb0 _ _
 have hid17 : ∀ p, idsE p (ints [0]) = true := fun p => qb0 _ _
 generalize kc0 (x.rows x.n) = e1 at *
 generalize ints (intN (bitS x.st x.n)) = e2 at *
 generalize ints (intN (bitS x.ac x.n)) = e3 at *
 generalize rowL (xl0 (detR x.nf x.A N)) = e4 at *
 generalize rowL (dRow x.A (detR x.nf x.A N)) = e5 at *
 generalize vb0 (detA x.nf x.A N) = e6 at *
 generalize rowL (dRow x.A r3) = e7 at *
 generalize rowL (xl0 r3) = e8 at *
 generalize vb0 b3 = e9 at *
 generalize kc0 (revRC x.A (x.rows x.n)) = e10 at *
 generalize rowL (dRow x.A (detR (revN x.nf) x.A N2)) = e12 at *
 generalize vb0 (detA (revN x.nf) x.A N2) = e13 at *
 generalize kc0 (revRC x.A (ofRC (dRow x.A (detR (revN x.nf) x.A N2)) (dRow x.A (detR (revN x.nf) x.A N2)).length)) = e14 at *
 generalize kc0 (ofRC (dRow x.A (detR (revN x.nf) x.A N2)) (dRow x.A (detR (revN x.nf) x.A N2)).length) = e15 at *
 generalize ints (intN (accK (detA (revN x.nf) x.A N2) (dRow x.A (detR (revN x.nf) x.A N2)).length)) = e16 at *
 generalize ints [0] = e17 at *
 generalize (ofRC (dRow x.A (detR (revN x.nf) x.A N2)) (dRow x.A (detR (revN x.nf) x.A N2)).length).length = n4 at *
 generalize (intN (accK (detA (revN x.nf) x.A N2) (dRow x.A (detR (revN x.nf) x.A N2)).length)).length = n5 at *
 generalize (accK (detA (revN x.nf) x.A N2) (dRow x.A (detR (revN x.nf) x.A N2)).length).length = n6 at *
 generalize (dRow x.A (detR (revN x.nf) x.A N2)).length = n3 at *
 generalize (intN (bitS x.ac x.n)).length = n7 at *
 generalize (intN (bitS x.st x.n)).length = n8 at *
 generalize (x.rows x.n).length = n9 at *
 unfold ndC at *
 generalize qad9 x.arcs = e11 at *
 refine wd0 0 122 [.tmp 2] Tryd.func7 rfl rfl rfl (by simp) ?_
 intro s ⟨a0, hz⟩
 clear hz
 repeat' (first|((first|refine nav ?_|(refine g0_ ?_; refine goD ?_)) <;> (try simp (disch := (first|exact discB|fail)) only [push_cast, ↓reduceIte, reduceCtorEq, Nat.reduceAdd, Nat.reduceLT, Nat.reduceEqDiff, Nat.reduceLeDiff, Int.reduceAdd, Int.reduceLT, Int.reduceLE, Nat.reduceMul, a0, hl5, hl6]))|(with_reducible refine gG ?_ ?_)|((with_reducible refine And.intro (fun h => ?_) (fun h => ?_)) <;> try (exfalso; omega))|(with_reducible refine andG ?_)|(refine And.intro ⟨[_], rfl⟩ ?_)|(refine And.intro ⟨[], by simp only [List.append_nil]⟩ ?_)|(first|(refine ⟨_, _, pc_lift (hO) (by (simp [idsL, idsE, AV.ids, *])) _, ?_⟩)|(refine ⟨_, pc_lift (hO) (by (simp [idsL, idsE, AV.ids, *])) _, ?_⟩)|(refine ⟨_, fun _ => pc_lift (hO) (by (simp [idsL, idsE, AV.ids, *])) _, ?_⟩)|(refine ⟨_, _, pc_lift (hD) (by (simp [idsL, idsE, AV.ids, *])) _, ?_⟩)|(refine ⟨_, pc_lift (hD) (by (simp [idsL, idsE, AV.ids, *])) _, ?_⟩)|(refine ⟨_, fun _ => pc_lift (hD) (by (simp [idsL, idsE, AV.ids, *])) _, ?_⟩)|(refine ⟨_, _, pc_lift (hE) (by (simp [idsL, idsE, AV.ids, *])) _, ?_⟩)|(refine ⟨_, pc_lift (hE) (by (simp [idsL, idsE, AV.ids, *])) _, ?_⟩)|(refine ⟨_, fun _ => pc_lift (hE) (by (simp [idsL, idsE, AV.ids, *])) _, ?_⟩)|(refine ⟨_, _, pc_lift (hM1) (by (simp [idsL, idsE, AV.ids, *])) _, ?_⟩)|(refine ⟨_, pc_lift (hM1) (by (simp [idsL, idsE, AV.ids, *])) _, ?_⟩)|(refine ⟨_, fun _ => pc_lift (hM1) (by (simp [idsL, idsE, AV.ids, *])) _, ?_⟩)|(refine ⟨_, _, pc_lift (hM2) (by (simp [idsL, idsE, AV.ids, *])) _, ?_⟩)|(refine ⟨_, pc_lift (hM2) (by (simp [idsL, idsE, AV.ids, *])) _, ?_⟩)|(refine ⟨_, fun _ => pc_lift (hM2) (by (simp [idsL, idsE, AV.ids, *])) _, ?_⟩)|(refine ⟨_, _, pc_lift (hM3) (by (simp [idsL, idsE, AV.ids, *])) _, ?_⟩)|(refine ⟨_, pc_lift (hM3) (by (simp [idsL, idsE, AV.ids, *])) _, ?_⟩)|(refine ⟨_, fun _ => pc_lift (hM3) (by (simp [idsL, idsE, AV.ids, *])) _, ?_⟩)|(refine ⟨_, _, pc_lift (hS1) (by (simp [idsL, idsE, AV.ids, *])) _, ?_⟩)|(refine ⟨_, pc_lift (hS1) (by (simp [idsL, idsE, AV.ids, *])) _, ?_⟩)|(refine ⟨_, fun _ => pc_lift (hS1) (by (simp [idsL, idsE, AV.ids, *])) _, ?_⟩)|(refine ⟨_, _, pc_lift (hS2) (by (simp [idsL, idsE, AV.ids, *])) _, ?_⟩)|(refine ⟨_, pc_lift (hS2) (by (simp [idsL, idsE, AV.ids, *])) _, ?_⟩)|(refine ⟨_, fun _ => pc_lift (hS2) (by (simp [idsL, idsE, AV.ids, *])) _, ?_⟩)|(refine ⟨_, _, pc_lift (hR1) (by (simp [idsL, idsE, AV.ids, *])) _, ?_⟩)|(refine ⟨_, pc_lift (hR1) (by (simp [idsL, idsE, AV.ids, *])) _, ?_⟩)|(refine ⟨_, fun _ => pc_lift (hR1) (by (simp [idsL, idsE, AV.ids, *])) _, ?_⟩)|(refine ⟨_, _, pc_lift (hD2) (by (simp [idsL, idsE, AV.ids, *])) _, ?_⟩)|(refine ⟨_, pc_lift (hD2) (by (simp [idsL, idsE, AV.ids, *])) _, ?_⟩)|(refine ⟨_, fun _ => pc_lift (hD2) (by (simp [idsL, idsE, AV.ids, *])) _, ?_⟩)|(refine ⟨_, _, pc_lift (hF) (by (simp [idsL, idsE, AV.ids, *])) _, ?_⟩)|(refine ⟨_, pc_lift (hF) (by (simp [idsL, idsE, AV.ids, *])) _, ?_⟩)|(refine ⟨_, fun _ => pc_lift (hF) (by (simp [idsL, idsE, AV.ids, *])) _, ?_⟩)|(refine ⟨_, _, pc_lift (hR2) (by (simp [idsL, idsE, AV.ids, *])) _, ?_⟩)|(refine ⟨_, pc_lift (hR2) (by (simp [idsL, idsE, AV.ids, *])) _, ?_⟩)|(refine ⟨_, fun _ => pc_lift (hR2) (by (simp [idsL, idsE, AV.ids, *])) _, ?_⟩)|(refine ⟨_, _, pc_lift (hD3) (by (simp [idsL, idsE, AV.ids, *])) _, ?_⟩)|(refine ⟨_, pc_lift (hD3) (by (simp [idsL, idsE, AV.ids, *])) _, ?_⟩)|(refine ⟨_, fun _ => pc_lift (hD3) (by (simp [idsL, idsE, AV.ids, *])) _, ?_⟩)|(refine ⟨_, _, pc_lift (hlv) (by (simp [idsL, idsE, AV.ids, *])) _, ?_⟩)|(refine ⟨_, pc_lift (hlv) (by (simp [idsL, idsE, AV.ids, *])) _, ?_⟩)|(refine ⟨_, fun _ => pc_lift (hlv) (by (simp [idsL, idsE, AV.ids, *])) _, ?_⟩))|simp (disch := (first|exact discB|fail)) only [push_cast, ↓reduceIte, reduceCtorEq, Nat.reduceAdd, Nat.reduceLT, Nat.reduceEqDiff, Nat.reduceLeDiff, Int.reduceAdd, Int.reduceLT, Int.reduceLE, Nat.reduceMul, a0, hl5, hl6])
end Go.Proofs
