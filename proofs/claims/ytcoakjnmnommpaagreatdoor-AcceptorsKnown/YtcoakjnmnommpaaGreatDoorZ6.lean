import Derived.Test.YtcoakjnmnommpaaGreatDoorA24
import Derived.Test.YtcoakjnmnommpaaGreatDoorZ1
namespace Go.Proofs
open Go Go.V Go.RowKit
set_option linter.unusedVariables false
set_option linter.unusedSimpArgs false
set_option maxHeartbeats 0
set_option maxRecDepth 100000
def unF (n : Nat) (S T : List Nat) : List Nat := (List.range n).filter fun t => S.contains t || T.contains t
theorem vbZ9 (n : Nat) (S T : List Nat) : FiltF n (unF n S T) := ⟨_, rfl⟩
theorem kbM9 {n : Nat} {S T : List Nat} (hS : FiltF n S) (hT : FiltF n T) (t : Nat) : t ∈ unF n S T ↔ t ∈ S ∨ t ∈ T := by
 rw [unF, l'T, l'o, l'H, l'h, l'h];exact ⟨fun h => h.2, fun h => ⟨h.elim (fun q => hS.lt q) (fun q => hT.lt q), h⟩⟩
theorem zds9 {n : Nat} {S T : List Nat} (hS : FiltF n S) (hT : FiltF n T) (h : ∀ t ∈ T, t ∈ S) : unF n S T = S :=
 (vbZ9 n S T).ext hS fun t _ => by rw [kbM9 hS hT]; exact ⟨fun q => q.elim id (h t), .inl⟩
theorem vbA9 {α : Type} (p q : α → Bool) : ∀ (l : List α), (∀ x ∈ l, p x = true → q x = true) → (l.filter p).length ≤ (l.filter q).length
 | [], _ => l'f _
 | x :: l, h => by
  have ih := vbA9 p q l fun y hy => h y (l'g _ hy);by_cases hp : p x = true
  ·have hq := h x l'n hp;rw [n'x hp, n'x hq, List.length_cons, List.length_cons]; omega
  ·rw [n'Z hp];by_cases hq : q x = true
   ·rw [n'x hq, List.length_cons]; omega
   ·rw [n'Z hq]; exact ih
theorem qaN9 {α : Type} (p q : α → Bool) : ∀ (l : List α), (∀ x ∈ l, p x = true → q x = true) → (∃ x ∈ l, q x = true ∧ ¬ p x = true) → (l.filter p).length < (l.filter q).length
 | [], _, h => by obtain ⟨x, hx, _⟩ := h; cases hx
 | x :: l, h, hx => by
  by_cases hp : p x = true
  ·have hq := h x l'n hp;rw [n'x hp, n'x hq, List.length_cons, List.length_cons];have := qaN9 p q l (fun y hy => h y (l'g _ hy)) (by
    obtain ⟨y, hy, h1, h2⟩ := hx;rcases l'C.1 hy with rfl|hy
    ·exact absurd hp h2
    ·exact ⟨y, hy, h1, h2⟩)
   omega
  ·have hle := vbA9 p q l fun y hy => h y (l'g _ hy);rw [n'Z hp];by_cases hq : q x = true
   ·rw [n'x hq, List.length_cons]; omega
   ·rw [n'Z hq];refine qaN9 p q l (fun y hy => h y (l'g _ hy)) ?_;obtain ⟨y, hy, h1, h2⟩ := hx;rcases l'C.1 hy with rfl|hy
    ·exact absurd h1 hq
    ·exact ⟨y, hy, h1, h2⟩
theorem FiltF.self {n : Nat} {S : List Nat} (h : FiltF n S) : S = (List.range n).filter fun t => S.contains t := by
 refine h.ext ⟨_, rfl⟩ fun t ht => ?_;rw [l'T, l'o, l'h];exact ⟨fun q => ⟨ht, q⟩, fun q => q.2⟩
theorem zeo9 {n : Nat} {S T : List Nat} (hS : FiltF n S) (hT : FiltF n T) (h : ¬ ∀ t ∈ T, t ∈ S) : S.length < (unF n S T).length := by
 rw [hS.self];refine qaN9 _ _ _ (fun x _ hx => ?_) ?_
 ·rw [← hS.self, hx]; rfl
 ·simp only [z'o] at h;obtain ⟨t, ht, h⟩ := h;refine ⟨t, l'o.2 (hT.lt ht), ?_, by rw [l'h]; exact h⟩;rw [l'H]; right; rw [l'h]; exact ht
theorem waA9 {n : Nat} {S : List Nat} (h : FiltF n S) : S.length ≤ n := by
 obtain ⟨p, rfl⟩ := h;have := n'a p (List.range n)
 rwa [n'p] at this
def orK (p q : Nat → Bool) (i t : Nat) : Bool := p t || (decide (t / 64 < i) && q t)
theorem qbN9 {p q : Nat → Bool} {i : Nat} (hi : i < 4) (h : ∀ b, b < 64 → p (64 * i + b) = q (64 * i + b)) : wP p i = wP q i :=
 qaa9 (kn0 p i) (kn0 q i) fun b hb => by rw [xj0 p i b hi hb, xj0 q i b hi hb, h b hb]
theorem kz0 (p q : Nat → Bool) (i j : Nat) (hj : j < 4) (h : i ≤ j) : wP (orK p q i) j = wP p j :=
 qbN9 hj fun b hb => by rw [orK, decide_eq_false (by omega), z'F, n'Y]
theorem kbk9 (p q : Nat → Bool) (i : Nat) (hi : i < 4) : wP p i ||| wP q i = wP (orK p q (i + 1)) i := by
 rw [qeB9 p q i hi];exact qbN9 hi fun b hb => by rw [orK, decide_eq_true (by omega), n'o]
theorem vg0 (p q : Nat → Bool) (i j : Nat) (hj : j < 4) (h : j ≠ i) : wP (orK p q (i + 1)) j = wP (orK p q i) j :=
 qbN9 hj fun b hb => by
  by_cases hc : j < i
  ·rw [orK, orK, decide_eq_true (by omega), decide_eq_true (by omega)]
  ·rw [orK, orK, decide_eq_false (by omega), decide_eq_false (by omega)]
def addK (p q : Nat → Bool) (i : Nat) : Bool := (List.range 256).any fun t => decide (t / 64 < i) && (q t && !p t)
theorem kan9 (p q : Nat → Bool) (i : Nat) (hi : i < 4) : addK p q (i + 1) = (addK p q i || !decide (wP q i &&& wP p i = wP q i)) := by
 have key : (wP q i &&& wP p i = wP q i) ↔ ∀ b, b < 64 → q (64 * i + b) = true → p (64 * i + b) = true := by
  constructor
  ·intro h b hb hq;have := congrArg (fun x => x.testBit b) h;simp only [z'y] at this;rw [xj0 q i b hi hb, xj0 p i b hi hb, hq] at this;simpa using this
  ·intro h;refine qaa9 (Nat.lt_of_le_of_lt Nat.and_le_left (kn0 q i)) (kn0 q i) fun b hb => ?_;rw [z'y, xj0 q i b hi hb, xj0 p i b hi hb];cases hq : q (64 * i + b) with
   | true => rw [h b hb hq]; rfl
   | false => rfl
 rw [l'u, l'H, l'M, decide_eq_false_iff_not, key, addK, addK, l'y, l'y];simp only [l'o, l'a, decide_eq_true_eq, l'M];constructor
 ·rintro ⟨t, ht, hti, hq, hp⟩;by_cases hc : t / 64 < i
  ·exact .inl ⟨t, ht, hc, hq, hp⟩
  ·right
   intro h;have e : 64 * i + t % 64 = t := by omega
   have := h (t % 64) (by omega);rw [e, hp] at this;exact absurd (this hq) (by decide)
 ·rintro (⟨t, ht, hti, hq, hp⟩|h)
  ·exact ⟨t, ht, by omega, hq, hp⟩
  ·simp only [z'o] at h;obtain ⟨b, hb, hq, hp⟩ := h;exact ⟨64 * i + b, by omega, by omega, hq, by simpa using hp⟩
theorem zcT9 (p q : Nat → Bool) : addK p q 0 = false := by simp [addK]
theorem xds9 {n : Nat} {S T : List Nat} (hT : FiltF n T) (hn : n ≤ 256) : addK (pS S) (pS T) 4 = true ↔ ¬ ∀ t ∈ T, t ∈ S := by
 rw [addK, l'y];simp only [l'o, l'a, decide_eq_true_eq, l'M, pS, z'o, l'h];constructor
 ·rintro ⟨t, _, _, hq, hp⟩;exact ⟨t, hq, fun q => by rw [l'h.2 q] at hp; cases hp⟩
 ·rintro ⟨t, hq, hp⟩;have := hT.lt hq;exact ⟨t, by omega, by omega, hq, by
   cases h : S.contains t with
   | true => exact absurd (l'h.1 h) hp
   | false => rfl⟩
theorem zdV9 {n : Nat} {S T : List Nat} (hS : FiltF n S) (hT : FiltF n T) : setL (orK (pS S) (pS T) 4) = PS (unF n S T) := by
 refine qaA9 fun t ht => ?_;rw [orK, decide_eq_true (by omega), n'o, l'u, l'H, pS, pS, pS, l'h, l'h, l'h, kbM9 hS hT]
theorem wds9 (p q : Nat → Bool) : setL (orK p q 0) = setL p := qaA9 fun t _ => by rw [orK, decide_eq_false (by omega), z'F, n'Y]
open Classical in
noncomputable def wH0 (x : Nf) (A : Nat) (S : List Nat) : List Nat := (List.range x.n).filter fun t => decide (vr0 x A S t)
open Classical in
theorem xcT9 {x : Nf} {A : Nat} {S R : List Nat} (hS : ∀ s ∈ S, s < x.n) (hR : FiltF x.n R) (h0 : ∀ s ∈ S, s ∈ R) (hc : ∀ a, a < A → ∀ t ∈ stepN x R a, t ∈ R) (hs : ∀ t ∈ R, vr0 x A S t) : R = wH0 x A S := by
 refine hR.ext ⟨_, rfl⟩ fun t ht => ?_;have := vav9 x A S (fun s => s ∈ R) h0 (fun s h a ha t ht hd => hc a ha t ((vU0 x R a t).2 ⟨ht, s, h, hd⟩)) hs t;rw [this, wH0, l'T, l'o, decide_eq_true_eq];exact ⟨fun q => ⟨ht, q⟩, fun q => q.2⟩
theorem qdC9 (A : Nat) (zr : Nat) (l : List RC) (c : Option Nat) (zs : Nat) (st : List Int) (cs : Option Nat) (za : Nat) (ac : List Int) (ca : Option Nat) (hsz : SizeN zr l zs st za ac) (hok : OkNv A (rowsV l) st ac) (zf : Nat) (S0 : List Nat) (cf : Option Nat) (hzf : S0 = [] ∨ zf = 1) (hF0 : FiltF (nfOf (rowsV l) st ac).n S0) :
  PC Tryz.prog G0 37 [nA A zr l c zs st cs za ac ca, .sl zf (ints (intN S0)) cf] (.agg (PS (wH0 (nfOf (rowsV l) st ac) A S0))) := by
 have hN : (nfOf (rowsV l) st ac).n = l.length := wb0 l;have hn := hok.n;rw [wb0] at hn;have hof : PC Tryz.prog G0 41 [.sl zf (ints (intN S0)) cf] (.agg (PS S0)) := by
  have h := of32 zf (intN S0) cf (hzf.elim (fun q => .inl (by rw [q]; rfl)) .inr) (by have := waA9 hF0; rw [kc0]; omega) (fun x hx => by
   obtain ⟨t, ht, rfl⟩ := l'B.1 hx;have := hF0.lt ht;omega)
  have e : setL (inL (intN S0)) = PS S0 := qaA9 fun t _ => by
   rw [l'u, inL, pS, l'h, l'h, intN, l'B];exact ⟨fun ⟨u, hu, he⟩ => (show t = u by omega) ▸ hu, fun h => ⟨t, h, rfl⟩⟩
  rw [e] at h;exact h
 have hst := fun S hS a ha => xbX9 (c := c) (cs := cs) (ca := ca) hsz hok (S := S) hS (a := a) ha;have hrf := fun R => xcT9 (x := nfOf (rowsV l) st ac) (A := A) (S := S0) (R := R) (fun s hs => hF0.lt hs);have hsf := fun S a => waJ9 (nfOf (rowsV l) st ac) S a;have hrs : ∀ s, s ∈ S0 → vr0 (nfOf (rowsV l) st ac) A S0 s := fun s hs => ⟨[], fun a ha => (by cases ha), s, hs, rfl⟩;have hrn : ∀ S, FiltF (nfOf (rowsV l) st ac).n S → (∀ s ∈ S, vr0 (nfOf (rowsV l) st ac) A S0 s) → ∀ a, a < A → ∀ t ∈ stepN (nfOf (rowsV l) st ac) S a, vr0 (nfOf (rowsV l) st ac) A S0 t := fun S hS hr a ha t ht => by
  obtain ⟨htn, s, hs, hd⟩ := (vU0 _ S a t).1 ht;exact xaX9 _ A S0 s a t (hr s hs) ha htn hd (hS.lt hs)
 have hA1 := hok.a1;have hA2 := hok.a2;have hidR : ∀ p, idsE p (xe0 l) = true := fun p => ze0 _ _;have hidS : ∀ p, idsE p (ints st) = true := fun p => wa0 _ _;have hidA : ∀ p, idsE p (ints ac) = true := fun p => wa0 _ _;have hidF : ∀ p, idsE p (ints (intN S0)) = true := fun p => wa0 _ _;generalize nfOf (rowsV l) st ac = X at *;generalize hXn : X.n = n at *;have hn256 : n ≤ 256 := by omega
 generalize hstep : stepN X = step at *;unfold nA at *;generalize xe0 l = RN at *;generalize ints st = IS at *;generalize ints ac = IA at *;generalize ints (intN S0) = IF at *;generalize wH0 X A S0 = RF at *;have hz4 : [AV.int .u64 0, .int .u64 0, .int .u64 0, .int .u64 0] = PS [] := by
  show _ = setL (pS []);rw [show pS [] = fun _ => false from rfl, zan9]
 refine qc0 0 47 [.cell 4 68] Tryz.func37 rfl rfl rfl (by simp) ?_;intro s ⟨a0, a1, hz⟩;simp only [l'm, Nat.reduceAdd] at a1;clear hz;repeat' (first|refine nv ?_|(with_reducible first|refine gG ?_ ?_|refine ⟨fun h => ?_, fun h => ?_⟩ <;> try omega|refine andG ?_)|refine cp_ hof ?_ (hi := by (simp [idsL, idsE, AV.ids, hidR, hidS, hidA, hidF, vo0]))|simp (disch := try exact qa0) only [push_cast, simprocAttr, a0, a1, wy0, xo0, wo0])
 refine go_loop rfl (fun mz s' H' => ∃ (S : List Nat) (b : Bool), FiltF n S ∧ (∀ s ∈ S0, s ∈ S) ∧ (∀ s ∈ S, vr0 X A S0 s) ∧ (b = false → ∀ a, a < A → ∀ t ∈ step S a, t ∈ S) ∧ mz = (if b = true then 1000 - S.length else 0) ∧ H' = [.row 4 29 [[.int .i64 A, .sl zr RN c, .sl zs IS cs, .sl za IA ca]], .row 4 68 [[.int .u64 0, .int .u64 0, .int .u64 0, .int .u64 0]], .row 4 68 [PS S]] ∧ s' 2 = .ptr 0 0 0 1 ∧ s' 4 = .ptr 1 0 0 1 ∧ s' 5 = .ptr 2 0 0 1 ∧ s' 6 = .bool b) (m := 1000 - S0.length) (by first|exact va0|fail) (Weak.refl _ _) ⟨S0, true, hF0, fun s h => h, hrs, fun h => (by cases h), rfl, rfl, ?_⟩ ?_
 ·simp (disch := try exact qa0) only [push_cast, simprocAttr, a0, a1, wy0, xo0, wo0]
 ·rintro mz s' H' ⟨S, b, hS, h0S, hrS, hcS, rfl, rfl, b2, b4, b5, b6⟩;have hSl := waA9 hS;cases b with
  | false =>
   obtain rfl := hrf S hS h0S (hcS rfl) hrS;repeat' (first|refine nv ?_|(with_reducible first|refine gG ?_ ?_|refine ⟨fun h => ?_, fun h => ?_⟩ <;> try omega|refine andG ?_)|simp (disch := try exact qa0) only [push_cast, simprocAttr, b2, b4, b5, b6, wy0, xo0, wo0])
   refine ⟨by unfold PS setL; simp [AV.ids], ?_⟩;unfold PS setL;simp (disch := try exact qa0) only [push_cast, simprocAttr, b2, b4, b5, b6, wy0, xo0, wo0]
  | true =>
   repeat' (first|refine nv ?_|(with_reducible first|refine gG ?_ ?_|refine ⟨fun h => ?_, fun h => ?_⟩ <;> try omega|refine andG ?_)|simp (disch := try exact qa0) only [push_cast, simprocAttr, b2, b4, b5, b6, wy0, xo0, wo0])
   refine go_loop rfl (fun mz s' H' => ∃ (a : Nat) (T : List Nat) (b : Bool), a ≤ A ∧ FiltF n T ∧ (∀ s ∈ S, s ∈ T) ∧ (∀ s ∈ T, vr0 X A S0 s) ∧ (b = false → T = S ∧ ∀ a', a' < a → ∀ t ∈ step S a', t ∈ S) ∧ (b = true → S.length < T.length) ∧ mz = A - a ∧ H' = [.row 4 29 [[.int .i64 A, .sl zr RN c, .sl zs IS cs, .sl za IA ca]], .row 4 68 [[.int .u64 0, .int .u64 0, .int .u64 0, .int .u64 0]], .row 4 68 [PS T]] ∧ s' 2 = .ptr 0 0 0 1 ∧ s' 4 = .ptr 1 0 0 1 ∧ s' 5 = .ptr 2 0 0 1 ∧ s' 6 = .bool b ∧ s' 14 = .int .i64 A ∧ s' 15 = .int .i64 a) (m := A) (by first|exact va0|fail) (Weak.refl _ _) ⟨0, S, false, by omega, hS, fun s h => h, hrS, fun _ => ⟨rfl, fun a h => by omega⟩, fun h => (by cases h), by omega, rfl, ?_⟩ ?_
   ·simp (disch := try exact qa0) only [push_cast, simprocAttr, b2, b4, b5, b6, wy0, xo0, wo0]
   ·clear b2 b4 b5 b6;rintro mz s' H' ⟨a, T, b, ha, hT, hST, hrT, hcT, hbT, rfl, rfl, b2, b4, b5, b6, b14, b15⟩;have hTl := waA9 hT;rcases l'i a A with hla|hga
    ·have hstT := hst T hT a hla;have hQ := hsf T a;have hrQ := hrn T hT hrT a hla;have hadd := xds9 (S := T) hQ hn256;have hor := zdV9 hT hQ;have hsame := zds9 hT hQ;have hlt := zeo9 hT hQ;have hmem := kbM9 hT hQ;have hor0 := wds9 (pS T) (pS (step T a));have hUf := vbZ9 n T (step T a);generalize hq : step T a = Q at *;generalize hU : unF n T Q = U at *;repeat' (first|refine nv ?_|(with_reducible first|refine gG ?_ ?_|refine ⟨fun h => ?_, fun h => ?_⟩ <;> try omega|refine andG ?_)|refine cp_ hstT ?_ (hi := by (simp [idsL, idsE, AV.ids, hidR, hidS, hidA, hidF, vo0]))|simp (disch := try exact qa0) only [push_cast, simprocAttr, b2, b4, b5, b6, b14, b15, wy0, xo0, wo0])
     refine go_loop rfl (fun mz s' H' => ∃ (i : Nat), i ≤ 4 ∧ mz = 4 - i ∧ H' = [.row 4 29 [[.int .i64 A, .sl zr RN c, .sl zs IS cs, .sl za IA ca]], .row 4 68 [[.int .u64 0, .int .u64 0, .int .u64 0, .int .u64 0]], .row 4 68 [setL (orK (pS T) (pS Q) i)], .row 4 68 [PS Q]] ∧ s' 2 = .ptr 0 0 0 1 ∧ s' 4 = .ptr 1 0 0 1 ∧ s' 5 = .ptr 2 0 0 1 ∧ s' 6 = .bool (b || addK (pS T) (pS Q) i) ∧ s' 8 = .ptr 3 0 0 1 ∧ s' 14 = .int .i64 A ∧ s' 15 = .int .i64 a ∧ s' 22 = .int .i64 i) (m := 4) (by first|exact va0|fail) (Weak.refl _ _) ⟨0, by omega, by omega, by rw [hor0]; rfl, ?_⟩ ?_
     ·rw [zcT9, n'Y];simp (disch := try exact qa0) only [push_cast, simprocAttr, b2, b4, b5, b6, b14, b15, wy0, xo0, wo0]
     ·clear b2 b4 b5 b6 b14 b15;rintro mz s' H' ⟨i, hi, rfl, rfl, b2, b4, b5, b6, b8, b14, b15, b22⟩;have hcs : ∀ i, setL (orK (pS T) (pS Q) i) = [.int .u64 (wP (orK (pS T) (pS Q) i) 0 : Nat), .int .u64 (wP (orK (pS T) (pS Q) i) 1 : Nat), .int .u64 (wP (orK (pS T) (pS Q) i) 2 : Nat), .int .u64 (wP (orK (pS T) (pS Q) i) 3 : Nat)] := fun _ => rfl;have hQc : PS Q = [.int .u64 (wP (pS Q) 0 : Nat), .int .u64 (wP (pS Q) 1 : Nat), .int .u64 (wP (pS Q) 2 : Nat), .int .u64 (wP (pS Q) 3 : Nat)] := rfl;have htn2 : Int.toNat 2 = 2 := rfl;have htn3 : Int.toNat 3 = 3 := rfl;have hi5 : i = 0 ∨ i = 1 ∨ i = 2 ∨ i = 3 ∨ i = 4 := by omega
      rcases hi5 with hi5|hi5|hi5|hi5|hi5
      ·obtain rfl : i = 0 := by omega
       have hb0 : bits .or .u64 ((wP (orK (pS T) (pS Q) 0) 0 : Nat) : Int) ((wP (pS Q) 0 : Nat) : Int) = ((wP (orK (pS T) (pS Q) (0 + 1)) 0 : Nat) : Int) := by
        rw [xV0 _ _ (kn0 _ _) (kn0 _ _), kz0 _ _ 0 0 (by decide) (by decide), kbk9 _ _ 0 (by decide)]
       have hb1 := zaa9 (wP (pS Q) 0) (wP (orK (pS T) (pS Q) 0) 0) (kn0 _ _) (kn0 _ _);rw [kz0 _ _ 0 0 (by decide) (by decide)] at hb1;have hbe : bits .andNot .u64 ((wP (pS Q) 0 : Nat) : Int) ((wP (orK (pS T) (pS Q) 0) 0 : Nat) : Int) = bits .andNot .u64 ((wP (pS Q) 0 : Nat) : Int) ((wP (pS T) 0 : Nat) : Int) := by rw [kz0 _ _ 0 0 (by decide) (by decide)]
       have hnx := kan9 (pS T) (pS Q) 0 (by decide);generalize bits .andNot .u64 ((wP (pS Q) 0 : Nat) : Int) ((wP (pS T) 0 : Nat) : Int) = v at *;cases hm : (b || addK (pS T) (pS Q) 0) with
       | true =>
        rw [hm] at b6;have hm' : (b || addK (pS T) (pS Q) (0 + 1)) = true := by rw [hnx, ← n'q, hm]; rfl
        repeat' (first|refine nv ?_|(with_reducible first|refine gG ?_ ?_|refine ⟨fun h => ?_, fun h => ?_⟩ <;> try omega|refine andG ?_)|simp (disch := try exact qa0) only [push_cast, simprocAttr, b2, b4, b5, b6, b8, b14, b15, b22, hcs, hQc, hb0, htn2, htn3])
        refine za0 (4 - (0 + 1)) (by omega) (by first|exact va0|fail) ⟨0 + 1, by omega, rfl, by rw [vg0 (pS T) (pS Q) 0 1 (by decide) (by decide), vg0 (pS T) (pS Q) 0 2 (by decide) (by decide), vg0 (pS T) (pS Q) 0 3 (by decide) (by decide)], ?_⟩;rw [hm'];simp (disch := try exact qa0) only [push_cast, simprocAttr, b2, b4, b5, b6, b8, b14, b15, b22, hcs, hQc, hb0, htn2, htn3]
       | false =>
        rw [hm] at b6;have hm' : (b || addK (pS T) (pS Q) (0 + 1)) = !decide (v = 0) := by
         rw [hnx, ← n'q, hm, n'd];congr 1
         exact decide_eq_decide.2 hb1.symm
        repeat' (first|refine nv ?_|(with_reducible first|refine gG ?_ ?_|refine ⟨fun h => ?_, fun h => ?_⟩ <;> try omega|refine andG ?_)|simp (disch := try exact qa0) only [push_cast, simprocAttr, b2, b4, b5, b6, b8, b14, b15, b22, hcs, hQc, hb0, htn2, htn3, hbe])
        refine za0 (4 - (0 + 1)) (by omega) (by first|exact va0|fail) ⟨0 + 1, by omega, rfl, by rw [vg0 (pS T) (pS Q) 0 1 (by decide) (by decide), vg0 (pS T) (pS Q) 0 2 (by decide) (by decide), vg0 (pS T) (pS Q) 0 3 (by decide) (by decide)], ?_⟩;rw [hm'];simp (disch := try exact qa0) only [push_cast, simprocAttr, b2, b4, b5, b6, b8, b14, b15, b22, hcs, hQc, hb0, htn2, htn3, hbe]
      ·obtain rfl : i = 1 := by omega
       have hb0 : bits .or .u64 ((wP (orK (pS T) (pS Q) 1) 1 : Nat) : Int) ((wP (pS Q) 1 : Nat) : Int) = ((wP (orK (pS T) (pS Q) (1 + 1)) 1 : Nat) : Int) := by
        rw [xV0 _ _ (kn0 _ _) (kn0 _ _), kz0 _ _ 1 1 (by decide) (by decide), kbk9 _ _ 1 (by decide)]
       have hb1 := zaa9 (wP (pS Q) 1) (wP (orK (pS T) (pS Q) 1) 1) (kn0 _ _) (kn0 _ _);rw [kz0 _ _ 1 1 (by decide) (by decide)] at hb1;have hbe : bits .andNot .u64 ((wP (pS Q) 1 : Nat) : Int) ((wP (orK (pS T) (pS Q) 1) 1 : Nat) : Int) = bits .andNot .u64 ((wP (pS Q) 1 : Nat) : Int) ((wP (pS T) 1 : Nat) : Int) := by rw [kz0 _ _ 1 1 (by decide) (by decide)]
       have hnx := kan9 (pS T) (pS Q) 1 (by decide);generalize bits .andNot .u64 ((wP (pS Q) 1 : Nat) : Int) ((wP (pS T) 1 : Nat) : Int) = v at *;cases hm : (b || addK (pS T) (pS Q) 1) with
       | true =>
        rw [hm] at b6;have hm' : (b || addK (pS T) (pS Q) (1 + 1)) = true := by rw [hnx, ← n'q, hm]; rfl
        repeat' (first|refine nv ?_|(with_reducible first|refine gG ?_ ?_|refine ⟨fun h => ?_, fun h => ?_⟩ <;> try omega|refine andG ?_)|simp (disch := try exact qa0) only [push_cast, simprocAttr, b2, b4, b5, b6, b8, b14, b15, b22, hcs, hQc, hb0, htn2, htn3])
        refine za0 (4 - (1 + 1)) (by omega) (by first|exact va0|fail) ⟨1 + 1, by omega, rfl, by rw [vg0 (pS T) (pS Q) 1 0 (by decide) (by decide), vg0 (pS T) (pS Q) 1 2 (by decide) (by decide), vg0 (pS T) (pS Q) 1 3 (by decide) (by decide)], ?_⟩;rw [hm'];simp (disch := try exact qa0) only [push_cast, simprocAttr, b2, b4, b5, b6, b8, b14, b15, b22, hcs, hQc, hb0, htn2, htn3]
       | false =>
        rw [hm] at b6;have hm' : (b || addK (pS T) (pS Q) (1 + 1)) = !decide (v = 0) := by
         rw [hnx, ← n'q, hm, n'd];congr 1
         exact decide_eq_decide.2 hb1.symm
        repeat' (first|refine nv ?_|(with_reducible first|refine gG ?_ ?_|refine ⟨fun h => ?_, fun h => ?_⟩ <;> try omega|refine andG ?_)|simp (disch := try exact qa0) only [push_cast, simprocAttr, b2, b4, b5, b6, b8, b14, b15, b22, hcs, hQc, hb0, htn2, htn3, hbe])
        refine za0 (4 - (1 + 1)) (by omega) (by first|exact va0|fail) ⟨1 + 1, by omega, rfl, by rw [vg0 (pS T) (pS Q) 1 0 (by decide) (by decide), vg0 (pS T) (pS Q) 1 2 (by decide) (by decide), vg0 (pS T) (pS Q) 1 3 (by decide) (by decide)], ?_⟩;rw [hm'];simp (disch := try exact qa0) only [push_cast, simprocAttr, b2, b4, b5, b6, b8, b14, b15, b22, hcs, hQc, hb0, htn2, htn3, hbe]
      ·obtain rfl : i = 2 := by omega
       have hb0 : bits .or .u64 ((wP (orK (pS T) (pS Q) 2) 2 : Nat) : Int) ((wP (pS Q) 2 : Nat) : Int) = ((wP (orK (pS T) (pS Q) (2 + 1)) 2 : Nat) : Int) := by
        rw [xV0 _ _ (kn0 _ _) (kn0 _ _), kz0 _ _ 2 2 (by decide) (by decide), kbk9 _ _ 2 (by decide)]
       have hb1 := zaa9 (wP (pS Q) 2) (wP (orK (pS T) (pS Q) 2) 2) (kn0 _ _) (kn0 _ _);rw [kz0 _ _ 2 2 (by decide) (by decide)] at hb1;have hbe : bits .andNot .u64 ((wP (pS Q) 2 : Nat) : Int) ((wP (orK (pS T) (pS Q) 2) 2 : Nat) : Int) = bits .andNot .u64 ((wP (pS Q) 2 : Nat) : Int) ((wP (pS T) 2 : Nat) : Int) := by rw [kz0 _ _ 2 2 (by decide) (by decide)]
       have hnx := kan9 (pS T) (pS Q) 2 (by decide);generalize bits .andNot .u64 ((wP (pS Q) 2 : Nat) : Int) ((wP (pS T) 2 : Nat) : Int) = v at *;cases hm : (b || addK (pS T) (pS Q) 2) with
       | true =>
        rw [hm] at b6;have hm' : (b || addK (pS T) (pS Q) (2 + 1)) = true := by rw [hnx, ← n'q, hm]; rfl
        repeat' (first|refine nv ?_|(with_reducible first|refine gG ?_ ?_|refine ⟨fun h => ?_, fun h => ?_⟩ <;> try omega|refine andG ?_)|simp (disch := try exact qa0) only [push_cast, simprocAttr, b2, b4, b5, b6, b8, b14, b15, b22, hcs, hQc, hb0, htn2, htn3])
        refine za0 (4 - (2 + 1)) (by omega) (by first|exact va0|fail) ⟨2 + 1, by omega, rfl, by rw [vg0 (pS T) (pS Q) 2 0 (by decide) (by decide), vg0 (pS T) (pS Q) 2 1 (by decide) (by decide), vg0 (pS T) (pS Q) 2 3 (by decide) (by decide)], ?_⟩;rw [hm'];simp (disch := try exact qa0) only [push_cast, simprocAttr, b2, b4, b5, b6, b8, b14, b15, b22, hcs, hQc, hb0, htn2, htn3]
       | false =>
        rw [hm] at b6;have hm' : (b || addK (pS T) (pS Q) (2 + 1)) = !decide (v = 0) := by
         rw [hnx, ← n'q, hm, n'd];congr 1
         exact decide_eq_decide.2 hb1.symm
        repeat' (first|refine nv ?_|(with_reducible first|refine gG ?_ ?_|refine ⟨fun h => ?_, fun h => ?_⟩ <;> try omega|refine andG ?_)|simp (disch := try exact qa0) only [push_cast, simprocAttr, b2, b4, b5, b6, b8, b14, b15, b22, hcs, hQc, hb0, htn2, htn3, hbe])
        refine za0 (4 - (2 + 1)) (by omega) (by first|exact va0|fail) ⟨2 + 1, by omega, rfl, by rw [vg0 (pS T) (pS Q) 2 0 (by decide) (by decide), vg0 (pS T) (pS Q) 2 1 (by decide) (by decide), vg0 (pS T) (pS Q) 2 3 (by decide) (by decide)], ?_⟩;rw [hm'];simp (disch := try exact qa0) only [push_cast, simprocAttr, b2, b4, b5, b6, b8, b14, b15, b22, hcs, hQc, hb0, htn2, htn3, hbe]
      ·obtain rfl : i = 3 := by omega
       have hb0 : bits .or .u64 ((wP (orK (pS T) (pS Q) 3) 3 : Nat) : Int) ((wP (pS Q) 3 : Nat) : Int) = ((wP (orK (pS T) (pS Q) (3 + 1)) 3 : Nat) : Int) := by
        rw [xV0 _ _ (kn0 _ _) (kn0 _ _), kz0 _ _ 3 3 (by decide) (by decide), kbk9 _ _ 3 (by decide)]
       have hb1 := zaa9 (wP (pS Q) 3) (wP (orK (pS T) (pS Q) 3) 3) (kn0 _ _) (kn0 _ _);rw [kz0 _ _ 3 3 (by decide) (by decide)] at hb1;have hbe : bits .andNot .u64 ((wP (pS Q) 3 : Nat) : Int) ((wP (orK (pS T) (pS Q) 3) 3 : Nat) : Int) = bits .andNot .u64 ((wP (pS Q) 3 : Nat) : Int) ((wP (pS T) 3 : Nat) : Int) := by rw [kz0 _ _ 3 3 (by decide) (by decide)]
       have hnx := kan9 (pS T) (pS Q) 3 (by decide);generalize bits .andNot .u64 ((wP (pS Q) 3 : Nat) : Int) ((wP (pS T) 3 : Nat) : Int) = v at *;cases hm : (b || addK (pS T) (pS Q) 3) with
       | true =>
        rw [hm] at b6;have hm' : (b || addK (pS T) (pS Q) (3 + 1)) = true := by rw [hnx, ← n'q, hm]; rfl
        repeat' (first|refine nv ?_|(with_reducible first|refine gG ?_ ?_|refine ⟨fun h => ?_, fun h => ?_⟩ <;> try omega|refine andG ?_)|simp (disch := try exact qa0) only [push_cast, simprocAttr, b2, b4, b5, b6, b8, b14, b15, b22, hcs, hQc, hb0, htn2, htn3])
        refine za0 (4 - (3 + 1)) (by omega) (by first|exact va0|fail) ⟨3 + 1, by omega, rfl, by rw [vg0 (pS T) (pS Q) 3 0 (by decide) (by decide), vg0 (pS T) (pS Q) 3 1 (by decide) (by decide), vg0 (pS T) (pS Q) 3 2 (by decide) (by decide)], ?_⟩;rw [hm'];simp (disch := try exact qa0) only [push_cast, simprocAttr, b2, b4, b5, b6, b8, b14, b15, b22, hcs, hQc, hb0, htn2, htn3]
       | false =>
        rw [hm] at b6;have hm' : (b || addK (pS T) (pS Q) (3 + 1)) = !decide (v = 0) := by
         rw [hnx, ← n'q, hm, n'd];congr 1
         exact decide_eq_decide.2 hb1.symm
        repeat' (first|refine nv ?_|(with_reducible first|refine gG ?_ ?_|refine ⟨fun h => ?_, fun h => ?_⟩ <;> try omega|refine andG ?_)|simp (disch := try exact qa0) only [push_cast, simprocAttr, b2, b4, b5, b6, b8, b14, b15, b22, hcs, hQc, hb0, htn2, htn3, hbe])
        refine za0 (4 - (3 + 1)) (by omega) (by first|exact va0|fail) ⟨3 + 1, by omega, rfl, by rw [vg0 (pS T) (pS Q) 3 0 (by decide) (by decide), vg0 (pS T) (pS Q) 3 1 (by decide) (by decide), vg0 (pS T) (pS Q) 3 2 (by decide) (by decide)], ?_⟩;rw [hm'];simp (disch := try exact qa0) only [push_cast, simprocAttr, b2, b4, b5, b6, b8, b14, b15, b22, hcs, hQc, hb0, htn2, htn3, hbe]
      ·obtain rfl : i = 4 := by omega
       rw [hor] at *;repeat' (first|refine nv ?_|(with_reducible first|refine gG ?_ ?_|refine ⟨fun h => ?_, fun h => ?_⟩ <;> try omega|refine andG ?_)|simp (disch := try exact qa0) only [push_cast, simprocAttr, b2, b4, b5, b6, b8, b14, b15, b22, wy0, xo0, wo0])
       refine kq0 (A - (a + 1)) 3 (by omega) (by first|exact va0|fail) (by omega) (by simp) (by simp [Blk.below, idsE, idsL, AV.ids, hidR, hidS, hidA, vo0]) ⟨a + 1, U, (b || addK (pS T) (pS Q) 4), by omega, hUf, fun s h => (hmem s).2 (.inl (hST s h)), fun s h => ((hmem s).1 h).elim (hrT s) (hrQ s), ?_, ?_, rfl, rfl, ?_⟩
       ·intro h;obtain ⟨h1, h2⟩ : b = false ∧ addK (pS T) (pS Q) 4 = false := by simpa using h
        have hsub : ∀ t ∈ Q, t ∈ T := by
         refine Classical.byContradiction fun q => ?_;rw [hadd.2 q] at h2; cases h2
        obtain ⟨rfl, hcl⟩ := hcT h1;refine ⟨hsame hsub, fun a' ha' t ht => ?_⟩;by_cases hq2 : a' = a
        ·subst hq2; rw [hq] at ht; exact hsub t ht
        ·exact hcl a' (by omega) t ht
       ·intro h;rcases (show b = true ∨ addK (pS T) (pS Q) 4 = true by simpa using h) with h|h
        ·have := hbT h;have hle : T.length ≤ U.length := by
          by_cases hsub : ∀ t ∈ Q, t ∈ T
          ·rw [hsame hsub]; exact l'f _
          ·exact Nat.le_of_lt (hlt hsub)
         omega
        ·have := hlt (hadd.1 h);have hle : S.length ≤ T.length := by
          cases hb' : b with
          | true => exact Nat.le_of_lt (hbT hb')
          | false => rw [(hcT hb').1]; exact l'f _
         omega
       ·skip
        simp (disch := try exact qa0) only [push_cast, simprocAttr, b2, b4, b5, b6, b8, b14, b15, b22, ki0, AV.ids, idsL]
    ·obtain rfl : A = a := by omega
     repeat' (first|refine nv ?_|(with_reducible first|refine gG ?_ ?_|refine ⟨fun h => ?_, fun h => ?_⟩ <;> try omega|refine andG ?_)|simp (disch := try exact qa0) only [push_cast, simprocAttr, b2, b4, b5, b6, b14, b15, wy0, xo0, wo0])
     cases hb : b with
     | true =>
      have := hbT hb;refine za0 (1000 - T.length) (by first|omega|(rw [if_pos rfl]; omega)) (by first|exact va0|fail) ⟨T, true, hT, fun s h => hST s (h0S s h), hrT, fun h => (by cases h), rfl, rfl, ?_⟩;rw [hb] at b6;simp (disch := try exact qa0) only [push_cast, simprocAttr, b2, b4, b5, b6]
     | false =>
      obtain ⟨rfl, hcl⟩ := hcT hb;refine za0 0 (by first|omega|(rw [if_pos rfl]; omega)) (by first|exact va0|fail) ⟨T, false, hT, h0S, hrT, fun _ => hcl, rfl, rfl, ?_⟩;rw [hb] at b6;simp (disch := try exact qa0) only [push_cast, simprocAttr, b2, b4, b5, b6]
end Go.Proofs
