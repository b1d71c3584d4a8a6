import Derived.Test.YtcoakjnmnommpaaGreatDoorA54
import Derived.Test.YtcoakjnmnommpaaGreatDoorA32
import Derived.Test.YtcoakjnmnommpaaGreatDoorA36
import Derived.Test.YtcoakjnmnommpaaGreatDoorZ12
import Derived.Test.YtcoakjnmnommpaaGreatDoorA45
import Derived.Test.YtcoakjnmnommpaaGreatDoorA34
import Derived.Test.YtcoakjnmnommpaaGreatDoorA35
namespace Go.Proofs
open Go Go.V Go.RowKit
set_option linter.unusedVariables false
set_option linter.unusedSimpArgs false
set_option maxHeartbeats 0
section
variable {δ : Nat → Nat → Nat} {acc : Nat → Bool} {A : Nat}
theorem MinOf.shape {r : List (List Nat)} {b : List Bool} (h : MinOf δ acc A r b) : 1 ≤ r.length ∧ b.length = r.length ∧ (∀ q ∈ r, q.length = A) ∧ ∀ s, s < r.length → ∀ a, a < A → (r.getD s []).getD a 0 < r.length := by
 obtain ⟨e, N, q1, q2, rfl, rfl⟩ := h
 have hs := zaC9 q1 (xbK9 (δ := δ) (acc := acc) (A := A))
 rw [hs N] at q2 ⊢
 have hr : (stX δ (eqW δ acc A) A 0 N).2.length = N := qab9 _ _ _ 0 N (by omega)
 have h0 : (stX δ (eqW δ acc A) A 0 N).1[0]? = some 0 := kaX9 0 N
 have hp := (List.getElem?_eq_some_iff.1 h0).1
 refine ⟨by omega, by rw [List.length_map, q2, hr], fun q hq => zak9 0 N q hq, fun s hs a ha => ?_⟩
 rw [hr] at hs
 obtain ⟨x, _, hx⟩ := kdM9 (step := δ) (eqv := eqW δ acc A) (A := A) zbK9 0 N (by omega) s hs
 have := (hx a ha)
 omega
theorem MinOf.le {r : List (List Nat)} {b : List Bool} (h : MinOf δ acc A r b) {n : Nat} (hn : 0 < n) (hδ : ∀ s, s < n → ∀ a, a < A → δ s a < n) : r.length ≤ n := by
 obtain ⟨e, N, q1, q2, rfl, rfl⟩ := h
 have hs := zaC9 q1 (xbK9 (δ := δ) (acc := acc) (A := A))
 rw [hs N] at q2 ⊢
 have hr : (stX δ (eqW δ acc A) A 0 N).2.length = N := qab9 _ _ _ 0 N (by omega)
 rw [hr, ← q2]
 refine qW0 (eqv := eqW δ acc A) id n _ ?_ (fun s _ t _ e => by
  have : s = t := e
  subst this; exact zbK9 s) (zab9 _ _ A 0 N)
 exact waA9 δ (eqW δ acc A) A (P := fun s => s < n) 0 hn (fun s hs a ha => hδ s hs a ha) N
end
section
variable {A : Nat} {l : List RC} {st ac : List Int}
theorem kbp9 (A : Nat) (l : List RC) : rowsV (xh0 A l) = (List.range l.length).map fun t => (List.range A).map fun a => intN (revG l t a) := by
 simp [rowsV, xh0, rowV]
theorem qbC9 (A : Nat) (l : List RC) {t : Nat} (ht : t < l.length) : (rowsV (xh0 A l)).getD t [] = (List.range A).map fun a => intN (revG l t a) := by
 rw [kbp9]; simp [ht]
theorem qcI9 (A : Nat) (l : List RC) {t a : Nat} (ht : t < l.length) (ha : a < A) : ((rowsV (xh0 A l)).getD t []).getD a [] = intN (revG l t a) := by
 rw [qbC9 A l ht]; simp [ha]
theorem wba9 (h : OkNv A (rowsV l) st ac) : OkNv A (rowsV (xh0 A l)) ac st := by
 have hl : (rowsV (xh0 A l)).length = (rowsV l).length := by rw [qb0, qb0, wi0]
 have hl2 : (rowsV l).length = l.length := qb0 l
 refine ⟨h.a1, h.a2, by rw [hl]; exact h.n, by rw [hl]; exact h.ac, by rw [hl]; exact h.st, fun s hs => ?_, fun s a hs ha => ?_⟩
 ·rw [qbC9 A l (by omega)]; simp
 ·rw [qcI9 A l (by omega) ha, hl, hl2]
  exact qj0 _ _
theorem qbq9 (h : OkNv A (rowsV l) st ac) (hz : SizeN 1 l 1 st 1 ac) : SizeN 1 (xh0 A l) 1 ac 1 st := by
 have hn := h.n
 have h2 := h.a2
 rw [qb0] at hn
 refine ⟨.inr rfl, .inr rfl, .inr rfl, by rw [wi0]; omega, hz.bac, hz.bst, fun s hs => ?_, fun s a hs ha => ?_⟩
 ·rw [wi0] at hs
  simp [xh0, hs]; omega
 ·rw [wi0] at hs
  have hA : a < A := by simpa [xh0, hs] using ha
  have := xas9 l s a
  simp only [xh0, List.getD_eq_getElem?_getD, List.getElem?_map, List.getElem?_range hs, Option.map_some, Option.getD_some, List.getElem?_range hA, zb0]
  omega
theorem qbQ9 (h : OkNv A (rowsV l) st ac) : SameF A (nfOf (rowsV (xh0 A l)) ac st) (revN (nfOf (rowsV l) st ac)) := by
 have hl2 : (rowsV l).length = l.length := qb0 l
 refine ⟨by show (rowsV (xh0 A l)).length = (rowsV l).length; rw [qb0, qb0, wi0], rfl, rfl, fun s a t hs ha ht => ?_⟩
 have hs : s < l.length := by
  have : s < (rowsV (xh0 A l)).length := hs
  rwa [qb0, wi0] at this
 have ht : t < l.length := by
  have : t < (rowsV (xh0 A l)).length := ht
  rwa [qb0, wi0] at this
 show (((rowsV (xh0 A l)).getD s []).getD a []).contains (t : Int) = (((rowsV l).getD t []).getD a []).contains (s : Int)
 rw [qcI9 A l hs ha, xw0 l t ht, wJ0 _ a (by rw [h.row ht]; exact ha), Bool.eq_iff_iff, List.contains_iff_mem, List.contains_iff_mem]
 simp only [intN, List.mem_map, revG, List.mem_filter, List.mem_range]
 constructor
 ·rintro ⟨t', ⟨_, q⟩, e⟩
  obtain rfl : t' = t := by omega
  exact List.contains_iff_mem.1 q
 ·intro q
  exact ⟨t, ⟨ht, List.contains_iff_mem.2 q⟩, rfl⟩
theorem zbQ9 (h : OkNv A (rowsV l) st ac) : OkN (nfOf (rowsV l) st ac) := by
 refine ⟨fun q hq => ?_, fun q hq => ?_⟩
 ·obtain ⟨p, hp⟩ := (kE0 h).1
  rw [hp] at hq
  exact List.mem_range.1 (List.mem_filter.1 hq).1
 ·obtain ⟨p, hp⟩ := (kE0 h).2
  rw [hp] at hq
  exact List.mem_range.1 (List.mem_filter.1 hq).1
end
end Go.Proofs
namespace Go.Proofs
open Go Go.V Go.RowKit
set_option linter.unusedVariables false
set_option linter.unusedSimpArgs false
set_option maxHeartbeats 0
set_option maxRecDepth 100000
theorem qaI9 (K : List Nat) : (List.range K.length).map (fun i => K.getD i 0) = K := by
 apply List.ext_getElem
 ·simp
 ·intro i h1 h2
  simp [List.getD_eq_getElem?_getD, h2]
theorem vH0 {K : List Nat} (hK : K.Nodup) {i : Nat} (hi : i < K.length) : K.idxOf (K.getD i 0) = i := by
 rw [List.getD_eq_getElem?_getD, List.getElem?_eq_getElem hi]
 exact hK.idxOf_getElem i hi
theorem qap9 (n : Nat) (p q : Nat → Bool) : ((List.range n).filter p).filter (fun t => ((List.range n).filter q).contains t) = ((List.range n).filter q).filter fun t => ((List.range n).filter p).contains t := by
 rw [List.filter_filter, List.filter_filter]
 refine List.filter_congr fun t ht => ?_
 rw [Bool.eq_iff_iff, Bool.and_eq_true, Bool.and_eq_true, List.contains_iff_mem, List.contains_iff_mem, List.mem_filter, List.mem_filter]
 exact ⟨fun h => ⟨⟨ht, h.2⟩, h.1.2⟩, fun h => ⟨⟨ht, h.2⟩, h.1.2⟩⟩
theorem zcI9 {n : Nat} {K l : List Nat} (hK : FiltF n K) (hl : FiltF n l) : smL l K l.length = (List.range K.length).filter fun i => l.contains (K.getD i 0) := by
 have hnd := vq0 hK
 rw [smL, List.take_length]
 have e : l.filter (fun t => K.contains t) = K.filter fun t => l.contains t := by
  obtain ⟨p, rfl⟩ := hl
  obtain ⟨q, rfl⟩ := hK
  exact qap9 n p q
 rw [e]
 conv => lhs; arg 2; rw [← qaI9 K]
 rw [List.filter_map, List.map_map]
 have : ∀ L : List Nat, (∀ i ∈ L, i < K.length) → L.map ((fun t => K.idxOf t) ∘ fun i => K.getD i 0) = L := by
  intro L hL
  conv => rhs; rw [← List.map_id L]
  refine List.map_congr_left fun i hi => ?_
  exact vH0 hnd (hL i hi)
 exact this _ fun i hi => List.mem_range.1 (List.mem_filter.1 hi).1
theorem vba9 {n : Nat} {K : List Nat} (hK : FiltF n K) {l : List Int} (hl : zf0 l n = true) : smL (natL l) K (natL l).length = wp0 l (intN K) K.length := by
 have h0 : ∀ x ∈ l, 0 ≤ x := fun x hx => (vc0 hl x hx).1
 rw [zcI9 hK ⟨_, qw0 hl⟩, wp0]
 refine List.filter_congr fun i hi => ?_
 rw [List.mem_range] at hi
 rw [qv0 K i hi, qad9 h0]
theorem vaR9 {A : Nat} {l : List RC} {st ac : List Int} (hok : OkNv A (rowsV l) st ac) {S : List Nat} (hF : FiltF l.length S) (t : Nat) : t ∈ outQ (sucL l) A S l.length ↔ wn0 (nfOf (rowsV l) st ac) A S t := by
 have hn : (nfOf (rowsV l) st ac).n = l.length := qb0 l
 have hd : ∀ s a t, (nfOf (rowsV l) st ac).d s a t = true ↔ (lstC l s a).1.contains (t : Int) = true := fun s a t => by
  show ((List.getD (List.getD (rowsV l) s []) a []).contains (t : Int)) = true ↔ _
  have : ((rowsV l).getD s []).getD a [] = (lstC l s a).1 := by
   simp only [rowsV, lstC, rowV, List.getD_eq_getElem?_getD, List.getElem?_map]
   cases l[s]? with
   | none => simp
   | some r =>
    simp only [Option.map_some, Option.getD_some, List.getElem?_map]
    cases hq : r.1[a]? with
    | none => simp [rowV, hq]
    | some q => simp [rowV, hq]
  rw [this]
 have hsu : ∀ s a t, s < l.length → a < A → ((nfOf (rowsV l) st ac).d s a t = true ↔ t ∈ sucL l s a) := fun s a t hs ha => by
  rw [hd, ← qad9 (fun x hx => (vc0 (hok.lst hs ha) x hx).1), List.contains_iff_mem]; rfl
 have hgrow := fun P hS hf => xN0 (f := sucL l) (A := A) (n := l.length) (S := S) (P := P) hS hf l.length
 have hf : ∀ s, s < l.length → wn0 (nfOf (rowsV l) st ac) A S s → ∀ a, a < A → ∀ t ∈ sucL l s a, t < l.length ∧ wn0 (nfOf (rowsV l) st ac) A S t := fun s hs hr a ha t ht => by
  have htl := vbB9 hok hs ha t ht
  exact ⟨htl, zai9 _ A S s a t hr ha (by rw [hn]; exact htl) ((hsu s a t hs ha).2 ht) (by rw [hn]; exact hs)⟩
 have hS0 : kao9 l.length (wn0 (nfOf (rowsV l) st ac) A S) S := ⟨vq0 hF, fun t ht => hF.lt ht, fun t ht => ⟨[], (fun a ha => by cases ha), t, ht, rfl⟩⟩
 have hg := hgrow _ hS0 hf
 have hlen := was9 (f := sucL l) (A := A) (n := l.length) (S := S) (P := wn0 (nfOf (rowsV l) st ac) A S) hS0 hf l.length
 refine wam9 (nfOf (rowsV l) st ac) A S (fun t => t ∈ outQ (sucL l) A S l.length) (wdc9 l.length) (fun s hs a ha t ht hd1 => ?_) hg.ok t
 obtain ⟨j, hj, rfl⟩ := war9 hs
 have hsl := hg.lt _ hs
 exact qaF9 (f := sucL l) (A := A) (S := S) l.length j (by omega) hj a ha t ((hsu _ a t hsl ha).1 hd1)
theorem qR0 (x : Nf) (A : Nat) (S : List Nat) (t : Nat) : t ∈ wD0 x A S ↔ t < x.n ∧ wn0 x A S t := by
 unfold wD0
 rw [List.mem_filter, List.mem_range]
 simp
theorem zbq9 {A : Nat} {l : List RC} {st ac : List Int} (hok : OkNv A (rowsV l) st ac) : (List.range l.length).filter (fun t => (wD0 (nfOf (rowsV l) st ac) A (natL st)).contains t && (wD0 (nfOf (rowsV (xh0 A l)) ac st) A (natL ac)).contains t) = kf0 A l st ac := by
 have hF := kE0 hok
 have hn : (nfOf (rowsV l) st ac).n = l.length := qb0 l
 rw [hn] at hF
 have e : rowsV (rvN A l l.length) = rowsV (xh0 A l) := by
  refine List.ext_getElem ?_ fun i h1 h2 => ?_
  ·rw [qb0, qb0, zt0, wi0]
  ·have hi : i < l.length := by rw [qb0, zt0] at h1; exact h1
   have a1 := wbB9 A l hi
   have a2 := qbC9 A l hi
   rw [← a2, List.getD_eq_getElem?_getD, List.getD_eq_getElem?_getD, List.getElem?_eq_getElem h1, List.getElem?_eq_getElem h2] at a1
   exact a1
 have h1 := vaR9 hok hF.1
 change ∀ t, t ∈ outQ (sucL l) A (natL st) l.length ↔ wn0 (nfOf (rowsV l) st ac) A (natL st) t at h1
 have h2 := fun t => vaR9 (xcH9 hok) (S := natL ac) (by rw [zt0]; exact hF.2) t
 rw [zt0, e] at h2
 have hn2 : (nfOf (rowsV (xh0 A l)) ac st).n = l.length := by show (rowsV (xh0 A l)).length = _; rw [qb0, wi0]
 rw [kf0, kpK]
 refine List.filter_congr fun t ht => ?_
 rw [List.mem_range] at ht
 rw [Bool.eq_iff_iff, Bool.and_eq_true, Bool.and_eq_true, List.contains_iff_mem, List.contains_iff_mem, List.contains_iff_mem, List.contains_iff_mem, h1, h2, qR0, qR0, hn, hn2]
 exact ⟨fun q => ⟨q.1.2, q.2.2⟩, fun q => ⟨⟨ht, q.1⟩, ht, q.2⟩⟩
theorem kaR9 {A : Nat} {x y : Nf} (h : SameF A x y) (hx : ∀ s a t, x.d s a t = true → True) {S : List Nat} (hS : ∀ s ∈ S, s < x.n) (t : Nat) (hr : wn0 x A S t) : wn0 y A S t := by
 obtain ⟨w, hw, s, hs, hp⟩ := hr
 refine ⟨w, hw, s, hs, ?_⟩
 have hsl := hS s hs
 clear hs
 induction w generalizing s with
 | nil => exact hp
 | cons a w ih =>
  obtain ⟨u, hu, hd, hp⟩ := hp
  have ha : a < A := hw a (List.mem_cons_self ..)
  exact ⟨u, by rw [← h.n]; exact hu, by rw [← h.d s a u hsl ha hu]; exact hd, ih (fun b hb => hw b (List.mem_cons_of_mem _ hb)) u hp hu⟩
theorem xbQ9 {A : Nat} {l : List RC} {st ac : List Int} (hok : OkNv A (rowsV l) st ac) : xdh9 (nfOf (rowsV l) st ac) A (kf0 A l st ac) ∧ FiltF l.length (kf0 A l st ac) := by
 have hn : (nfOf (rowsV l) st ac).n = l.length := qb0 l
 have hn2 : (nfOf (rowsV (xh0 A l)) ac st).n = l.length := by show (rowsV (xh0 A l)).length = _; rw [qb0, wi0]
 have hF := kE0 hok
 rw [hn] at hF
 have hs := qbQ9 hok
 rw [← zbq9 hok]
 refine ⟨⟨fun s hs => ?_, fun s hs => ?_⟩, ⟨_, rfl⟩⟩
 ·rw [hn]; exact List.mem_range.1 (List.mem_filter.1 hs).1
 ·rename_i hrs
  rw [hn] at hs
  rw [List.mem_filter, List.mem_range, Bool.and_eq_true, List.contains_iff_mem, List.contains_iff_mem, qR0, qR0, hn, hn2]
  have q1 := kaR9 hrs (fun _ _ _ _ => trivial) (S := natL ac) (fun s hs => by rw [hn2]; exact hF.2.lt hs) s
  have q2 := kaR9 hrs.symm (fun _ _ _ _ => trivial) (S := natL ac) (fun s hs => by show s < (nfOf (rowsV l) st ac).n; rw [hn]; exact hF.2.lt hs) s
  exact ⟨fun h => ⟨h.2.1.2, q1 h.2.2.2⟩, fun h => ⟨hs, ⟨hs, h.1⟩, hs, q2 h.2⟩⟩
end Go.Proofs
namespace Go.Proofs
open Go Go.V Go.RowKit
set_option linter.unusedVariables false
set_option linter.unusedSimpArgs false
set_option maxHeartbeats 0
set_option maxRecDepth 100000
def numK (K : List Nat) (n : Nat) : Nat → List Int
 | 0 => List.replicate n 0
 | q + 1 => (numK K n q).set (K.getD q 0) q
theorem kas9 (K : List Nat) (n : Nat) : ∀ q, (numK K n q).length = n
 | 0 => by simp [numK]
 | q + 1 => by rw [numK, List.length_set, kas9 K n q]
theorem wbQ9 {K : List Nat} {n : Nat} (hK : K.Nodup) (hlt : ∀ t ∈ K, t < n) : ∀ q, q ≤ K.length → ∀ i, i < q → (numK K n q).getD (K.getD i 0) 0 = (i : Int)
 | 0, _, i, hi => absurd hi (Nat.not_lt_zero i)
 | q + 1, hq, i, hi => by
  rw [numK, List.getD_eq_getElem?_getD, List.getElem?_set]
  by_cases h : K.getD q 0 = K.getD i 0
  ·have e : q = i := by rw [← vH0 hK (i := q) (by omega), h, vH0 hK (by omega)]
   subst e
   rw [if_pos rfl, if_pos (by rw [kas9]; exact hlt _ (zaB9 (by omega)))]
   rfl
  ·have hne : i ≠ q := fun e => h (by rw [e])
   rw [if_neg h, ← List.getD_eq_getElem?_getD]
   exact wbQ9 hK hlt q (by omega) i (by omega)
theorem qde9 {K : List Nat} {n : Nat} (hK : K.Nodup) (hlt : ∀ t ∈ K, t < n) (t : Nat) (ht : t ∈ K) : (numK K n K.length).getD t 0 = (K.idxOf t : Nat) := by
 obtain ⟨i, hi, rfl⟩ := war9 ht
 rw [wbQ9 hK hlt K.length (Nat.le_refl _) i hi, vH0 hK hi]
def itF (n : Nat) (S T : List Nat) : List Nat := (List.range n).filter fun t => S.contains t && T.contains t
theorem zde9 (n : Nat) (S T : List Nat) : FiltF n (itF n S T) := ⟨_, rfl⟩
theorem xde9 {n : Nat} {S T : List Nat} (hS : FiltF n S) (hT : FiltF n T) (i : Nat) (hi : i < 4) : wP (pS S) i &&& wP (pS T) i = wP (pS (itF n S T)) i := by
 rw [xbl9 _ _ i hi]
 refine kaN9 (fun t ht => ?_) i
 rw [Bool.eq_iff_iff, Bool.and_eq_true, pS, pS, pS, List.contains_iff_mem, List.contains_iff_mem, List.contains_iff_mem, itF, List.mem_filter, List.mem_range, Bool.and_eq_true, List.contains_iff_mem, List.contains_iff_mem]
 exact ⟨fun h => ⟨hS.lt h.1, h⟩, fun h => h.2⟩
def smC (l : List RC) (K : List Nat) (i b : Nat) : List Nat := smL (natL (lstC l (K.getD i 0) b).1) K (natL (lstC l (K.getD i 0) b).1).length
def trF (l : List RC) (K : List Nat) (q a i b : Nat) : AV := if i < q ∨ (i = q ∧ b < a) then .sl 1 (ints (intN (smC l K i b))) (some (smC l K i b).length) else .sl 0 [] (some 0)
def trR (l : List RC) (K : List Nat) (A q a : Nat) : Nat → List (List AV) := fun i => zj0 (trF l K q a i) A
section
variable {l : List RC} {K : List Nat} {A q a : Nat}
theorem zbC9 (i : Nat) : (trR l K A q a i).length = A := kI0 _ _
theorem trR_zero : trR l K A 0 0 = fun _ => nils A := by
 funext i
 rw [trR, nils, wx0]
 exact xe0 fun b _ => by rw [trF, if_neg (by omega)]
theorem zdE9 : (trR l K A q a q).set a [.sl 1 (ints (intN (smC l K q a))) (some (smC l K q a).length)] = trR l K A q (a + 1) q := by
 rw [trR, zG0, trR]
 refine xe0 fun b _ => ?_
 unfold updF
 by_cases h : b = a
 ·subst h; rw [if_pos rfl, trF, if_pos (by omega)]
 ·rw [if_neg h, trF, trF]
  split <;> split <;> first|rfl|(exfalso; omega)
theorem xdE9 (ha : a < A) : (trR l K A q a q).getD a [] = [.sl 0 [] (some 0)] := by rw [trR, vV0 ha, trF, if_neg (by omega)]
theorem wdE9 (N : Nat) : wd0 1 27 (updF (trR l K A q a) q (trR l K A q (a + 1) q)) N = wd0 1 27 (trR l K A q (a + 1)) N := kr0 fun i _ => by
 unfold updF
 by_cases h : i = q
 ·subst h; rw [if_pos rfl]
 ·rw [if_neg h, trR, trR]
  refine xe0 fun b _ => ?_
  rw [trF, trF]
  split <;> split <;> first|rfl|(exfalso; omega)
theorem wde9 (N : Nat) : wd0 1 27 (trR l K A q A) N = wd0 1 27 (trR l K A (q + 1) 0) N := kr0 fun i _ => by
 rw [trR, trR]
 refine xe0 fun b hb => ?_
 rw [trF, trF]
 split <;> split <;> first|rfl|(exfalso; omega)
theorem xcI9 (i : Nat) (p : Nat → Bool) : idsE p (trR l K A q a i) = true := wbX9 fun b _ => by
 rw [trF]
 split
 ·simp only [AV.ids]; exact va0 _ _
 ·rfl
end
def tmC (A : Nat) (l : List RC) (K : List Nat) : List RC := (List.range K.length).map fun i => ((List.range A).map fun b => (intN (smC l K i b), some (smC l K i b).length), some A)
theorem wN0 (A : Nat) (l : List RC) (K : List Nat) : (tmC A l K).length = K.length := by simp [tmC]
theorem vde9 (A : Nat) (l : List RC) (K : List Nat) : zj0 (fun s => .sl 1 (trR l K A K.length 0 s) (some A)) K.length = xc0 (tmC A l K) := by
 rw [zj0, xc0, tmC, List.map_map]
 refine List.map_congr_left fun i hi => ?_
 rw [List.mem_range] at hi
 simp only [Function.comp, rC]
 congr 3
 rw [trR, zj0, rowL, List.map_map]
 refine List.map_congr_left fun b hb => ?_
 simp only [Function.comp, lC]
 rw [trF, if_pos (by omega)]
theorem xbq9 (g : Nat → List (List AV)) (N : Nat) (X Y : Blk) : (wd0 1 27 g N ++ [X]).set N Y = wd0 1 27 g N ++ [Y] := by
 rw [List.set_append_right _ _ (by rw [rf_len]; omega), rf_len, Nat.sub_self]; rfl
theorem vaF9 (g : Nat → List (List AV)) (N : Nat) (X : Blk) : (wd0 1 27 g N ++ [X]).length = N + 1 := by rw [List.length_append, rf_len]; rfl
theorem kaF9 (g : Nat → List (List AV)) (N : Nat) (X : Blk) : (wd0 1 27 g N ++ [X])[N]? = some X := by rw [qbj9]; rfl
theorem kde9 {H : List Blk} {l : List RC} {K : List Nat} {A : Nat} (hH : ∀ s, s < K.length → H[s + 12]? = some (.row 1 27 (trR l K A K.length 0 s))) : ((ownR 12 A (some A) K.length).map fun e => e.map (qi0 H 1)) = xc0 (tmC A l K) := by
 have h := zbj9 (H := H) (b0 := 12) (f := fun s => .own (s + 12) A A (some A)) (g := fun s => trR l K A K.length 0 s) (c := fun _ => some A) (N := K.length) (fun s _ => by rw [zbC9]) hH
 rw [vde9] at h
 exact h
theorem keg9 {H : List Blk} {l : List RC} {K : List Nat} {A : Nat} (hH : ∀ s, s < K.length → H[s + 12]? = some (.row 1 27 (trR l K A K.length 0 s))) : ((ownR 12 A (some A) K.length).all fun e => e.all (okC H 1)) = true :=
 kcq9 (H := H) (b0 := 12) (f := fun s => .own (s + 12) A A (some A)) (g := fun s => trR l K A K.length 0 s) (c := fun _ => some A) (N := K.length) (fun s _ => by rw [zbC9]) hH fun s _ => xcI9 s _
end Go.Proofs
