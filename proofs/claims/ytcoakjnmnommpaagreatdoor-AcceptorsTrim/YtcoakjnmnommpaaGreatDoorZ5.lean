import Derived.Test.YtcoakjnmnommpaaGreatDoorA43
import Derived.Test.YtcoakjnmnommpaaGreatDoorA13
import Derived.Test.YtcoakjnmnommpaaGreatDoorA23
namespace Go.Proofs
open Go Go.V Go.RowKit
set_option linter.unusedVariables false
set_option linter.unusedSimpArgs false
set_option maxHeartbeats 0
set_option maxRecDepth 100000
def zej9 (sym : Int) (w : List Int) : Int := if 256 < w.length then 3 else if w.any (badW sym) = true then 1 else 0
theorem vdS9 (z : Nat) (w : List Int) (c : Option Nat) (hz : w = [] ∨ z = 1) (hl : w.length ≤ 1000000) : PC Tryz.prog G0 15 [.sl z (ints w) c] (.sl 1 (ints w.reverse) none) := by
 have hil := ka0 w
 refine vd0 1 20 [.tmp 2] Tryz.func15 rfl rfl rfl (by simp) ?_
 intro s ⟨a0, hz⟩
 clear hz
 repeat' (first|refine nav ?_|(refine g0_ ?_; refine goD ?_)|(with_reducible refine gG ?_ ?_)|((with_reducible refine And.intro (fun h => ?_) (fun h => ?_)) <;> try (exfalso; omega))|(with_reducible refine andG ?_)|fail|simp (disch := (first|exact za0|fail)) only [push_cast, simprocAttr, a0, hil])
 refine go_loop rfl (fun mz s' H' => ∃ k : Nat, k ≤ w.length ∧ mz = w.length - k ∧ H' = [.row 1 3 (ints (w.reverse.take k))] ∧ s' 0 = .sl z (ints w) c ∧ s' 3 = .own 0 k k none ∧ s' 4 = .int .i64 ((w.length : Int) - k - 1)) (m := w.length) (by first|exact xb0|fail) (zp0 (t := 3) (sz := 1) (ty := 3) rfl) ⟨0, by omega, by omega, rfl, ?_⟩ ?_
 ·simp (disch := (first|exact za0|fail)) only [push_cast, simprocAttr, a0, hil]
  congr 1 <;> omega
 ·rintro mz s' H' ⟨k, hk, rfl, rfl, b0, b3, b4⟩
  have hrl : (ints (w.reverse.take k)).length = k := by rw [ka0, List.length_take, List.length_reverse]; omega
  have hidr : ∀ p, idsE p (ints (w.reverse.take k)) = true := fun p => va0 _ _
  have et : (ints (w.reverse.take k)).take k = ints (w.reverse.take k) := List.take_of_length_le (by omega)
  have ed : (ints (w.reverse.take k)).drop (k + 1) = [] := List.drop_eq_nil_of_le (by omega)
  rcases Nat.lt_or_ge k w.length with hlt|hge
  ·obtain rfl := hz.resolve_left (by intro h; rw [h] at hlt; simp at hlt)
   have hq : ((w.length : Int) - k - 1).toNat = w.length - k - 1 := by omega
   have hq0 : 0 ≤ (w.length : Int) - k - 1 := by omega
   have hq1 : (w.length : Int) - k - 1 < w.length := by omega
   have e1 := kc0 w (w.length - k - 1) (by omega)
   have hsn := xm0 (w.reverse.take k) (w.getD (w.length - k - 1) 0)
   have hnx : w.reverse.take k ++ [w.getD (w.length - k - 1) 0] = w.reverse.take (k + 1) := by
    rw [zg0 w.reverse 0 k (by simp; exact hlt)]
    congr 2
    simp only [List.getD_eq_getElem?_getD]
    rw [List.getElem?_reverse (by omega)]
    congr 2; omega
   rw [hnx] at hsn
   generalize w.getD (w.length - k - 1) 0 = x at *
   have hqe : (w.length : Int) - k - 1 - 1 = (w.length : Int) - (k + 1) - 1 := by omega
   generalize (w.length : Int) - k - 1 = q at *
   repeat' (first|refine nav ?_|(refine g0_ ?_; refine goD ?_)|(with_reducible refine gG ?_ ?_)|((with_reducible refine And.intro (fun h => ?_) (fun h => ?_)) <;> try (exfalso; omega))|(with_reducible refine andG ?_)|fail|simp (disch := (first|exact za0|fail)) only [push_cast, simprocAttr, b0, b3, b4, hil, hq, hq0, hq1, e1, hrl, et, ed])
   refine xa0 (w.length - (k + 1)) (by omega) (by first|exact xb0|fail) ⟨k + 1, by omega, rfl, by rw [← hsn], ?_⟩
   simp (disch := (first|exact za0|fail)) only [push_cast, simprocAttr, b0, b3, b4, hil, hq, hq0, hq1, e1, hrl, et, ed]
   congr 1 <;> (first|omega|(rw [vaC9 _ (by omega) (by omega)]; omega))
  ·obtain rfl : w.length = k := by omega
   have hq0 : ¬ (0 : Int) ≤ (w.length : Int) - w.length - 1 := by omega
   have hfull : w.reverse.take w.length = w.reverse := List.take_of_length_le (by simp)
   rw [hfull] at *
   repeat' (first|refine nav ?_|(refine g0_ ?_; refine goD ?_)|(with_reducible refine gG ?_ ?_)|((with_reducible refine And.intro (fun h => ?_) (fun h => ?_)) <;> try (exfalso; omega))|(with_reducible refine andG ?_)|fail|simp (disch := (first|exact za0|fail)) only [push_cast, simprocAttr, b0, b3, b4, hil, hq0, hrl, et])
   rw [List.length_reverse]
end Go.Proofs
namespace Go.Proofs
open Go Go.V Go.RowKit
set_option linter.unusedVariables false
set_option linter.unusedSimpArgs false
set_option maxHeartbeats 0
set_option maxRecDepth 100000
def unF (n : Nat) (S T : List Nat) : List Nat := (List.range n).filter fun t => S.contains t || T.contains t
theorem zbO9 (n : Nat) (S T : List Nat) : FiltF n (unF n S T) := ⟨_, rfl⟩
theorem zbB9 {n : Nat} {S T : List Nat} (hS : FiltF n S) (hT : FiltF n T) (t : Nat) : t ∈ unF n S T ↔ t ∈ S ∨ t ∈ T := by
 rw [unF, List.mem_filter, List.mem_range, Bool.or_eq_true, List.contains_iff_mem, List.contains_iff_mem]
 exact ⟨fun h => h.2, fun h => ⟨h.elim (fun q => hS.lt q) (fun q => hT.lt q), h⟩⟩
theorem zdb9 {n : Nat} {S T : List Nat} (hS : FiltF n S) (hT : FiltF n T) (h : ∀ t ∈ T, t ∈ S) : unF n S T = S :=
 (zbO9 n S T).ext hS fun t _ => by rw [zbB9 hS hT]; exact ⟨fun q => q.elim id (h t), .inl⟩
theorem xbo9 {α : Type} (p q : α → Bool) : ∀ (l : List α), (∀ x ∈ l, p x = true → q x = true) → (l.filter p).length ≤ (l.filter q).length
 | [], _ => Nat.le_refl _
 | x :: l, h => by
  have ih := xbo9 p q l fun y hy => h y (List.mem_cons_of_mem _ hy)
  by_cases hp : p x = true
  ·have hq := h x List.mem_cons_self hp
   rw [List.filter_cons_of_pos hp, List.filter_cons_of_pos hq, List.length_cons, List.length_cons]; omega
  ·rw [List.filter_cons_of_neg hp]
   by_cases hq : q x = true
   ·rw [List.filter_cons_of_pos hq, List.length_cons]; omega
   ·rw [List.filter_cons_of_neg hq]; exact ih
theorem vaE9 {α : Type} (p q : α → Bool) : ∀ (l : List α), (∀ x ∈ l, p x = true → q x = true) → (∃ x ∈ l, q x = true ∧ ¬ p x = true) → (l.filter p).length < (l.filter q).length
 | [], _, h => by obtain ⟨x, hx, _⟩ := h; cases hx
 | x :: l, h, hx => by
  by_cases hp : p x = true
  ·have hq := h x List.mem_cons_self hp
   rw [List.filter_cons_of_pos hp, List.filter_cons_of_pos hq, List.length_cons, List.length_cons]
   have := vaE9 p q l (fun y hy => h y (List.mem_cons_of_mem _ hy)) (by
    obtain ⟨y, hy, h1, h2⟩ := hx
    rcases List.mem_cons.1 hy with rfl|hy
    ·exact absurd hp h2
    ·exact ⟨y, hy, h1, h2⟩)
   omega
  ·have hle := xbo9 p q l fun y hy => h y (List.mem_cons_of_mem _ hy)
   rw [List.filter_cons_of_neg hp]
   by_cases hq : q x = true
   ·rw [List.filter_cons_of_pos hq, List.length_cons]; omega
   ·rw [List.filter_cons_of_neg hq]
    refine vaE9 p q l (fun y hy => h y (List.mem_cons_of_mem _ hy)) ?_
    obtain ⟨y, hy, h1, h2⟩ := hx
    rcases List.mem_cons.1 hy with rfl|hy
    ·exact absurd h1 hq
    ·exact ⟨y, hy, h1, h2⟩
theorem FiltF.self {n : Nat} {S : List Nat} (h : FiltF n S) : S = (List.range n).filter fun t => S.contains t := by
 refine h.ext ⟨_, rfl⟩ fun t ht => ?_
 rw [List.mem_filter, List.mem_range, List.contains_iff_mem]
 exact ⟨fun q => ⟨ht, q⟩, fun q => q.2⟩
theorem kdS9 {n : Nat} {S T : List Nat} (hS : FiltF n S) (hT : FiltF n T) (h : ¬ ∀ t ∈ T, t ∈ S) : S.length < (unF n S T).length := by
 rw [hS.self]
 refine vaE9 _ _ _ (fun x _ hx => ?_) ?_
 ·rw [← hS.self, hx]; rfl
 ·simp only [Classical.not_forall] at h
  obtain ⟨t, ht, h⟩ := h
  refine ⟨t, List.mem_range.2 (hT.lt ht), ?_, by rw [List.contains_iff_mem]; exact h⟩
  rw [Bool.or_eq_true]; right; rw [List.contains_iff_mem]; exact ht
theorem qK0 {n : Nat} {S : List Nat} (h : FiltF n S) : S.length ≤ n := by
 obtain ⟨p, rfl⟩ := h
 have := List.length_filter_le p (List.range n)
 rwa [List.length_range] at this
def orK (p q : Nat → Bool) (i t : Nat) : Bool := p t || (decide (t / 64 < i) && q t)
theorem xbB9 {p q : Nat → Bool} {i : Nat} (hi : i < 4) (h : ∀ b, b < 64 → p (64 * i + b) = q (64 * i + b)) : wP p i = wP q i :=
 zQ0 (qo0 p i) (qo0 q i) fun b hb => by rw [xj0 p i b hi hb, xj0 q i b hi hb, h b hb]
theorem vx0 (p q : Nat → Bool) (i j : Nat) (hj : j < 4) (h : i ≤ j) : wP (orK p q i) j = wP p j :=
 xbB9 hj fun b hb => by rw [orK, decide_eq_false (by omega), Bool.false_and, Bool.or_false]
theorem qba9 (p q : Nat → Bool) (i : Nat) (hi : i < 4) : wP p i ||| wP q i = wP (orK p q (i + 1)) i := by
 rw [zee9 p q i hi]
 exact xbB9 hi fun b hb => by rw [orK, decide_eq_true (by omega), Bool.true_and]
theorem wg0 (p q : Nat → Bool) (i j : Nat) (hj : j < 4) (h : j ≠ i) : wP (orK p q (i + 1)) j = wP (orK p q i) j :=
 xbB9 hj fun b hb => by
  by_cases hc : j < i
  ·rw [orK, orK, decide_eq_true (by omega), decide_eq_true (by omega)]
  ·rw [orK, orK, decide_eq_false (by omega), decide_eq_false (by omega)]
def addK (p q : Nat → Bool) (i : Nat) : Bool := (List.range 256).any fun t => decide (t / 64 < i) && (q t && !p t)
theorem vad9 (p q : Nat → Bool) (i : Nat) (hi : i < 4) : addK p q (i + 1) = (addK p q i || !decide (wP q i &&& wP p i = wP q i)) := by
 have key : (wP q i &&& wP p i = wP q i) ↔ ∀ b, b < 64 → q (64 * i + b) = true → p (64 * i + b) = true := by
  constructor
  ·intro h b hb hq
   have := congrArg (fun x => x.testBit b) h
   simp only [Nat.testBit_and] at this
   rw [xj0 q i b hi hb, xj0 p i b hi hb, hq] at this
   simpa using this
  ·intro h
   refine zQ0 (Nat.lt_of_le_of_lt Nat.and_le_left (qo0 q i)) (qo0 q i) fun b hb => ?_
   rw [Nat.testBit_and, xj0 q i b hi hb, xj0 p i b hi hb]
   cases hq : q (64 * i + b) with
   | true => rw [h b hb hq]; rfl
   | false => rfl
 rw [Bool.eq_iff_iff, Bool.or_eq_true, Bool.not_eq_true', decide_eq_false_iff_not, key, addK, addK, List.any_eq_true, List.any_eq_true]
 simp only [List.mem_range, Bool.and_eq_true, decide_eq_true_eq, Bool.not_eq_true']
 constructor
 ·rintro ⟨t, ht, hti, hq, hp⟩
  by_cases hc : t / 64 < i
  ·exact .inl ⟨t, ht, hc, hq, hp⟩
  ·right
   intro h
   have e : 64 * i + t % 64 = t := by omega
   have := h (t % 64) (by omega)
   rw [e, hp] at this
   exact absurd (this hq) (by decide)
 ·rintro (⟨t, ht, hti, hq, hp⟩|h)
  ·exact ⟨t, ht, by omega, hq, hp⟩
  ·simp only [Classical.not_forall] at h
   obtain ⟨b, hb, hq, hp⟩ := h
   exact ⟨64 * i + b, by omega, by omega, hq, by simpa using hp⟩
theorem zcG9 (p q : Nat → Bool) : addK p q 0 = false := by simp [addK]
theorem xdb9 {n : Nat} {S T : List Nat} (hT : FiltF n T) (hn : n ≤ 256) : addK (pS S) (pS T) 4 = true ↔ ¬ ∀ t ∈ T, t ∈ S := by
 rw [addK, List.any_eq_true]
 simp only [List.mem_range, Bool.and_eq_true, decide_eq_true_eq, Bool.not_eq_true', pS, Classical.not_forall, List.contains_iff_mem]
 constructor
 ·rintro ⟨t, _, _, hq, hp⟩
  exact ⟨t, hq, fun q => by rw [List.contains_iff_mem.2 q] at hp; cases hp⟩
 ·rintro ⟨t, hq, hp⟩
  have := hT.lt hq
  exact ⟨t, by omega, by omega, hq, by
   cases h : S.contains t with
   | true => exact absurd (List.contains_iff_mem.1 h) hp
   | false => rfl⟩
theorem xdB9 {n : Nat} {S T : List Nat} (hS : FiltF n S) (hT : FiltF n T) : setL (orK (pS S) (pS T) 4) = PS (unF n S T) := by
 refine kar9 fun t ht => ?_
 rw [orK, decide_eq_true (by omega), Bool.true_and, Bool.eq_iff_iff, Bool.or_eq_true, pS, pS, pS, List.contains_iff_mem, List.contains_iff_mem, List.contains_iff_mem, zbB9 hS hT]
theorem wdb9 (p q : Nat → Bool) : setL (orK p q 0) = setL p := kar9 fun t _ => by rw [orK, decide_eq_false (by omega), Bool.false_and, Bool.or_false]
open Classical in
noncomputable def wD0 (x : Nf) (A : Nat) (S : List Nat) : List Nat := (List.range x.n).filter fun t => decide (wn0 x A S t)
open Classical in
theorem xcG9 {x : Nf} {A : Nat} {S R : List Nat} (hS : ∀ s ∈ S, s < x.n) (hR : FiltF x.n R) (h0 : ∀ s ∈ S, s ∈ R) (hc : ∀ a, a < A → ∀ t ∈ stepN x R a, t ∈ R) (hs : ∀ t ∈ R, wn0 x A S t) : R = wD0 x A S := by
 refine hR.ext ⟨_, rfl⟩ fun t ht => ?_
 have := wam9 x A S (fun s => s ∈ R) h0 (fun s h a ha t ht hd => hc a ha t ((kA0 x R a t).2 ⟨ht, s, h, hd⟩)) hs t
 rw [this, wD0, List.mem_filter, List.mem_range, decide_eq_true_eq]
 exact ⟨fun q => ⟨ht, q⟩, fun q => q.2⟩
end Go.Proofs
