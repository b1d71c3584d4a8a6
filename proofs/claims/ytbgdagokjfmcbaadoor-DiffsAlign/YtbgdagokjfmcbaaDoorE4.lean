import Derived.Test.YtbgdagokjfmcbaaDoorD72
import Derived.Test.YtbgdagokjfmcbaaDoorV57
namespace Go.Proofs
open Go Go.V
set_option linter.unusedVariables false
set_option linter.unusedSimpArgs false
def toP (O : List Int) (t : Int) : Nat → Int
 | 0 => -1
 | n + 1 => if O.getD n 0 = t then (n : Int) else toP O t n
theorem zbz9 {O : List Int} {t : Int} : ∀ n, (∀ j, j < n → O.getD j 0 ≠ t) → toP O t n = -1
 | 0, _ => rfl
 | n + 1, h => by rw [toP, if_neg (h n (by omega)), zbz9 n fun j hj => h j (by omega)]
theorem xbz9 {O : List Int} {t : Int} (hn : O.Nodup) : ∀ n, n ≤ O.length → ∀ j, j < n → O.getD j 0 = t → toP O t n = j
 | 0, _, j, hj, _ => absurd hj (Nat.not_lt_zero _)
 | n + 1, hl, j, hj, he => by
  rw [toP];by_cases q : O.getD n 0 = t
  ·rw [if_pos q];have h1 : O[n]'(by omega) = O[j]'(by omega) := by
    rw [List.getD_eq_getElem?_getD, List.getElem?_eq_getElem (by omega)] at q he;exact q.trans he.symm
   have := (List.getElem_inj hn).1 h1;omega
  ·rw [if_neg q];have : j ≠ n := fun e => q (e ▸ he);exact xbz9 hn n (by omega) j (by omega) he
theorem qbr9 (lt : Int → Int → Bool) : ∀ (l : List Int) (s : Int) (k : Nat), k ≤ l.length → (∀ j, j < k → lt (l.getD j 0) s = true) → (k = l.length ∨ lt (l.getD k 0) s = false) → insO lt l s = l.take k ++ s :: l.drop k
 | [], s, k, hk, _, _ => by
  obtain rfl : k = 0 := by simpa using hk
  rfl
 | x :: r, s, 0, _, _, h => by
  rcases h with h|h
  ·cases h
  ·have h : lt x s = false := h;rw [insO, if_neg (by rw [h]; decide)]; rfl
 | x :: r, s, k + 1, hk, h1, h2 => by
  have h0 : lt x s = true := h1 0 (by omega);rw [insO, if_pos h0, qbr9 lt r s k (by simpa using hk) (fun j hj => h1 (j + 1) (by omega)) (h2.imp (fun q => by simpa using q) fun q => q)];rfl
def ordK (is : List Bool) (l : List (List Nat)) (s : Nat) : List Int :=
 (((List.range s).filter fun s => is.getD s false).map fun (s : Nat) => (s : Int)).foldl (insO fun x s => xM0 (l.getD x.toNat []) (l.getD s.toNat [])) []
theorem xci9 (is : List Bool) (l : List (List Nat)) : ordK is l 0 = [] := rfl
theorem zaQ9 {is : List Bool} {l : List (List Nat)} {s : Nat} (h : is.getD s false = true) : ordK is l (s + 1) = insO (fun x s => xM0 (l.getD x.toNat []) (l.getD s.toNat [])) (ordK is l s) s := by
 rw [ordK, List.range_succ, List.filter_append, List.map_append, List.foldl_append, List.filter_cons, if_pos h]; rfl
theorem zbr9 {is : List Bool} {l : List (List Nat)} {s : Nat} (h : is.getD s false = false) : ordK is l (s + 1) = ordK is l s := by
 rw [ordK, List.range_succ, List.filter_append, List.map_append, List.foldl_append, List.filter_cons, if_neg (by rw [h]; decide)]; rfl
theorem wcH9 (la : List Row) (I n : Nat) : ordK (pthM la I n (cntR I n)).1 (pthM la I n (cntR I n)).2 n = ordM la I n := rfl
theorem wbz9 (is : List Bool) (l : List (List Nat)) : ∀ s, (ordK is l s).length ≤ s
 | 0 => Nat.le_refl _
 | s + 1 => by
  have ih := wbz9 is l s;cases h : is.getD s false with
  | true => rw [zaQ9 h, (wac9 _ _ _).length_eq, List.length_cons]; omega
  | false => rw [zbr9 h]; omega
theorem xaQ9 (is : List Bool) (l : List (List Nat)) : ∀ s, ∀ x ∈ ordK is l s, 0 ≤ x ∧ x < s
 | 0, x, h => by cases h
 | s + 1, x, h => by
  cases hs : is.getD s false with
  | true =>
   rw [zaQ9 hs, (wac9 _ _ _).mem_iff] at h;rcases List.mem_cons.1 h with rfl|h
   ·omega
   ·have := xaQ9 is l s x h; omega
  | false => rw [zbr9 hs] at h; have := xaQ9 is l s x h; omega
set_option maxHeartbeats 0
set_option maxRecDepth 100000
def nI (w : List Nat) : List Int := w.map fun (n : Nat) => (n : Int)
theorem wM0 (w : List Nat) : (nI w).length = w.length := by simp [nI]
theorem wci9 (w : List Nat) (k : Nat) (h : k < w.length) : (ints (nI w)).getD k [] = [.int .i64 (w.getD k 0 : Nat)] := by
 rw [wc0 _ _ (by rw [wM0]; exact h)];simp [nI, h]
theorem zdt9 (za : Nat) (a : List Nat) (ca : Option Nat) (zb : Nat) (b : List Nat) (cb : Option Nat) (hza : a = [] ∨ za = 1) (hzb : b = [] ∨ zb = 1) (ha : a.length ≤ 1000000) (hb : b.length ≤ 1000000) : PC Tryd.prog G0 82 [.sl za (ints (nI a)) ca, .sl zb (ints (nI b)) cb] (.int .i64 (if xM0 a b = true then 1 else 0)) := by
 have hLa : (ints (nI a)).length = a.length := by rw [zb0, wM0]
 have hLb : (ints (nI b)).length = b.length := by rw [zb0, wM0]
 by_cases hl : a.length = b.length
 rotate_left
 ·rw [xcH9 hl];have hli : ¬ (a.length : Int) = b.length := by omega
  by_cases h : a.length < b.length
  ·have h' : (a.length : Int) < b.length := by omega
   rw [decide_eq_true h, if_pos rfl];refine wf0 0 40 [.tmp 4] Tryd.func82 rfl rfl rfl (by simp) ?_;intro s ⟨a0, a1, hz⟩;simp only [Nat.zero_add, Nat.reduceAdd] at a1;clear hz;repeat' (first|refine nv ?_|(with_reducible first|refine gG ?_ ?_|refine ⟨fun h => ?_, fun h => ?_⟩ <;> try omega|refine andG ?_)|simp (disch := try exact qa0) only [push_cast, simprocAttr, a0, a1, hLa, hLb, hl, h])
  ·have h' : ¬ (a.length : Int) < b.length := by omega
   rw [decide_eq_false h, if_neg (by decide)];refine wf0 0 40 [.tmp 4] Tryd.func82 rfl rfl rfl (by simp) ?_;intro s ⟨a0, a1, hz⟩;simp only [Nat.zero_add, Nat.reduceAdd] at a1;clear hz;repeat' (first|refine nv ?_|(with_reducible first|refine gG ?_ ?_|refine ⟨fun h => ?_, fun h => ?_⟩ <;> try omega|refine andG ?_)|simp (disch := try exact qa0) only [push_cast, simprocAttr, a0, a1, hLa, hLb, hl, h])
 ·refine wf0 0 40 [.tmp 4] Tryd.func82 rfl rfl rfl (by simp) ?_;intro s ⟨a0, a1, hz⟩;simp only [Nat.zero_add, Nat.reduceAdd] at a1;clear hz;repeat' (first|refine nv ?_|(with_reducible first|refine gG ?_ ?_|refine ⟨fun h => ?_, fun h => ?_⟩ <;> try omega|refine andG ?_)|simp (disch := try exact qa0) only [push_cast, simprocAttr, a0, a1, hLa, hLb, hl])
  refine go_loop rfl (fun mz s' H' => ∃ i : Nat, i ≤ a.length ∧ mz = a.length - i ∧ H' = [] ∧ s' 0 = .sl za (ints (nI a)) ca ∧ s' 1 = .sl zb (ints (nI b)) cb ∧ s' 5 = .int .i64 i ∧ ∀ j, j < i → a.getD j 0 = b.getD j 0) (m := a.length) (by first|exact wb0|fail) (Weak.refl _ _) ⟨0, by omega, by omega, rfl, ?_⟩ ?_
  ·simp (disch := try exact qa0) only [push_cast, simprocAttr, a0, a1, hLa, hLb, hl];exact fun j hj => absurd hj (Nat.not_lt_zero _)
  ·rintro mz s' H' ⟨i, hi, rfl, rfl, b0, b1, b5, hj⟩;rcases Nat.lt_or_ge i a.length with hlt|hge
   ·obtain rfl := hza.resolve_left (by intro e; rw [e] at hlt; exact absurd hlt (Nat.not_lt_zero _));obtain rfl := hzb.resolve_left (by intro e; rw [e] at hl; simp at hl; rw [hl] at hlt; exact absurd hlt (Nat.not_lt_zero _));have e1 := wci9 a i hlt;have e2 := wci9 b i (by omega);by_cases hq : a.getD i 0 = b.getD i 0
    ·have hj2 : ∀ j, j < i + 1 → a.getD j 0 = b.getD j 0 := zaN9 hj hq;rw [hq] at e1;generalize b.getD i 0 = y at *;repeat' (first|refine nv ?_|(with_reducible first|refine gG ?_ ?_|refine ⟨fun h => ?_, fun h => ?_⟩ <;> try omega|refine andG ?_)|simp (disch := try exact qa0) only [push_cast, simprocAttr, b0, b1, b5, hLa, hLb, e1, e2])
     refine qb0 (a.length - (i + 1)) (by omega) (by first|exact wb0|fail) ⟨i + 1, by omega, rfl, rfl, ?_⟩;simp (disch := try exact qa0) only [push_cast, simprocAttr, b0, b1, b5, hLa, hLb, e1, e2];exact hj2
    ·rw [zcH9 hl hlt hj hq];have hqi : ¬ ((a.getD i 0 : Nat) : Int) = (b.getD i 0 : Nat) := by omega
     by_cases hlx : a.getD i 0 < b.getD i 0
     ·have hlx' : ((a.getD i 0 : Nat) : Int) < (b.getD i 0 : Nat) := by omega
      rw [decide_eq_true hlx, if_pos rfl];generalize a.getD i 0 = x at *;generalize b.getD i 0 = y at *;repeat' (first|refine nv ?_|(with_reducible first|refine gG ?_ ?_|refine ⟨fun h => ?_, fun h => ?_⟩ <;> try omega|refine andG ?_)|simp (disch := try exact qa0) only [push_cast, simprocAttr, b0, b1, b5, hLa, hLb, e1, e2, hq, hlx])
     ·have hlx' : ¬ ((a.getD i 0 : Nat) : Int) < (b.getD i 0 : Nat) := by omega
      rw [decide_eq_false hlx, if_neg (by decide)];generalize a.getD i 0 = x at *;generalize b.getD i 0 = y at *;repeat' (first|refine nv ?_|(with_reducible first|refine gG ?_ ?_|refine ⟨fun h => ?_, fun h => ?_⟩ <;> try omega|refine andG ?_)|simp (disch := try exact qa0) only [push_cast, simprocAttr, b0, b1, b5, hLa, hLb, e1, e2, hq, hlx])
   ·obtain rfl : i = a.length := by omega
    rw [wbM9 hl hj, if_neg (by decide)];repeat' (first|refine nv ?_|(with_reducible first|refine gG ?_ ?_|refine ⟨fun h => ?_, fun h => ?_⟩ <;> try omega|refine andG ?_)|simp (disch := try exact qa0) only [push_cast, simprocAttr, b0, b1, b5, hLa, hLb])
theorem vci9 {O : List Int} (hn : O.Nodup) (t : Int) : toP O t O.length = qy0 O t := by
 by_cases h : t ∈ O
 ·obtain ⟨h1, h2, h3⟩ := vP0 h;have := xbz9 hn O.length (Nat.le_refl _) (qy0 O t).toNat (by omega) h3;rw [this]; omega
 ·rw [qy0, if_neg h];exact zbz9 _ fun j hj e => h (by
   rw [List.getD_eq_getElem?_getD, List.getElem?_eq_getElem hj] at e;exact e ▸ List.getElem_mem hj)
def vj0 (R : Rs) : List Row := R.map fun r => (r, none)
theorem kw0 (R : Rs) : (vj0 R).length = R.length := by simp [vj0]
theorem xm0 (R : Rs) : edgesOf (vj0 R) = R := by simp [vj0, edgesOf, Function.comp_def]
theorem xaH9 (R : Rs) (r : List Edg) : xb0 (vj0 (R ++ [r])) = xb0 (vj0 R) ++ [[.sl 2 (rowA r) none]] := by simp [vj0, xb0]
theorem qay9 {α : Type} (l : List α) (d : α) (k : Nat) (h : k < l.length) : l.take (k + 1) = l.take k ++ [l.getD k d] := by
 rw [List.take_succ_eq_append_getElem h]; simp [h]
theorem xdt9 (o : Int) (la : List Row) (c : Option Nat) (O : List Int) (zo : Nat) (co : Option Nat) (I : Nat) (hzo : O = [] ∨ zo = 1) (hIb : I ≤ 1000) (hO : O.length ≤ 1000) (hnd : O.Nodup) (hb : ∀ s ∈ O, 0 ≤ s ∧ s < la.length) (hw : ∀ s, s < la.length → (la.getD s ([], none)).1.length = I) (hla : la.length ≤ 1000000) :
  PC Tryd.prog G0 55 [mA I o la c, .sl zo (ints O) co] (mA I o (vj0 (vp0 O (edgesOf la))) none) := by
 have hlR := wa0 la;have hlO := zb0 O;have hPl : (vp0 O (edgesOf la)).length = O.length := wp0 _ _;have hidR : ∀ p, idsE p (xb0 la) = true := fun p => ke0 _ _;have hidO : ∀ p, idsE p (ints O) = true := fun p => wl0 _ _;unfold mA;refine wf0 1 68 [.cell 4 30] Tryd.func55 rfl rfl rfl (by simp) ?_;intro s ⟨a0, a1, hz⟩;simp only [Nat.zero_add, Nat.reduceAdd] at a1;clear hz;repeat' (first|(first|refine nav ?_|(refine g0_ ?_; first|refine dN (p := [0, 0, 0, 1, 0, 0, 1, 0, 1, 0, 0, 1, 0, 0, 1, 0, 1, 1]) [] [] [(11, 12)] ?_|refine goD ?_))|(with_reducible first|refine gG ?_ ?_|refine ⟨fun h => ?_, fun h => ?_⟩ <;> try omega|refine andG ?_)|simp (disch := try exact qa0) only [push_cast, simprocAttr, a0, a1, hlO])
 refine go_loop rfl (fun mz s' H' => ∃ k : Nat, k ≤ O.length ∧ mz = O.length - k ∧ H' = [.row 3 30 [[.int .i64 I, .int .i64 o, .sl 1 (xb0 la) c]], .row 3 30 [[.int .i64 0, .int .i64 0, .sl 0 [] (some 0)]], .row 3 30 [[.int .i64 I, .int .i64 o, .own 3 k k none]], .row 1 97 (xb0 (vj0 ((vp0 O (edgesOf la)).take k)))] ∧ s' 1 = .sl zo (ints O) co ∧ s' 2 = .ptr 0 0 0 1 ∧ s' 4 = .ptr 1 0 0 1 ∧ s' 5 = .ptr 2 0 0 1 ∧ s' 6 = .int .i64 k) (m := O.length) (by first|exact wb0|fail) (vi0 (b := 2) (i := 0) (j := 2) (sz := 1) (ty := 97) rfl rfl rfl) ⟨0, by omega, by omega, rfl, ?_⟩ ?_
 ·simp (disch := try exact qa0) only [push_cast, simprocAttr, a0, a1, hlO]
 ·rintro mz s' H' ⟨k, hk, rfl, rfl, b1, b2, b4, b5, b6⟩;have hkl : (xb0 (vj0 ((vp0 O (edgesOf la)).take k))).length = k := by rw [wa0, kw0, List.length_take]; omega
  rcases Nat.lt_or_ge k O.length with hlt|hge
  ·obtain rfl := hzo.resolve_left (by intro e; rw [e] at hlt; exact absurd hlt (Nat.not_lt_zero _));have hsn := xaH9 ((vp0 O (edgesOf la)).take k) ((vp0 O (edgesOf la)).getD k []);rw [← qay9 _ [] k (by omega), qW0 O _ hlt] at hsn;have eO := wc0 O k hlt;have hmO : O.getD k 0 ∈ O := by rw [List.getD_eq_getElem?_getD, List.getElem?_eq_getElem hlt]; exact List.getElem_mem hlt
   obtain ⟨h0, h1⟩ := hb _ hmO;generalize O.getD k 0 = q at *;obtain ⟨t, rfl⟩ : ∃ t : Nat, q = t := ⟨q.toNat, by omega⟩;rw [Int.toNat_natCast, kd0] at hsn;have eR := xf0 la t (by omega);have hwr := hw t (by omega);generalize (la.getD t ([], none)).2 = cr at *;generalize (la.getD t ([], none)).1 = r at *;have hrl := za0 r;have hiW : ∀ p, idsE p (xb0 (vj0 ((vp0 O (edgesOf la)).take k))) = true := fun p => ke0 _ _;obtain ⟨RW2, hRW2⟩ : ∃ x, x = xb0 (vj0 ((vp0 O (edgesOf la)).take (k + 1))) := ⟨_, rfl⟩;rw [← hRW2] at hsn;generalize xb0 (vj0 ((vp0 O (edgesOf la)).take k)) = RW at *;repeat' (first|(first|refine nav ?_|(refine g0_ ?_; first|refine dN (p := [0, 0, 0, 1, 0, 0, 1, 0, 1, 0, 0, 1, 0, 0, 1, 0, 1, 1]) [] [] [(11, 12)] ?_|refine goD ?_))|(with_reducible first|refine gG ?_ ?_|refine ⟨fun h => ?_, fun h => ?_⟩ <;> try omega|refine andG ?_)|simp (disch := try exact qa0) only [push_cast, simprocAttr, b1, b2, b4, b5, b6, hlO, hkl])
   refine zo0 (by first|exact wb0|fail) (kv0 (t := 7) (z := 0) (sz := 2) (ty := 91) rfl) ?_;refine go_loop rfl (fun mz s2 H2 => ∃ j : Nat, j ≤ I ∧ mz = I - j ∧ H2 = [.row 3 30 [[.int .i64 I, .int .i64 o, .sl 1 (xb0 la) c]], .row 3 30 [[.int .i64 0, .int .i64 0, .sl 0 [] (some 0)]], .row 3 30 [[.int .i64 I, .int .i64 o, .own 3 k k none]], .row 1 97 RW, .row 2 91 (rowA ((r.take j).map (zM0 O)))] ∧ s2 1 = .sl 1 (ints O) co ∧ s2 2 = .ptr 0 0 0 1 ∧ s2 4 = .ptr 1 0 0 1 ∧ s2 5 = .ptr 2 0 0 1 ∧ s2 6 = .int .i64 k ∧ s2 7 = .own 4 j j none ∧ s2 8 = .int .i64 j) (m := I) (by trivial) (Weak.refl _ _) ⟨0, by omega, by omega, rfl, ?_⟩ ?_
   ·simp (disch := try exact qa0) only [push_cast, simprocAttr, b1, b2, b4, b5, b6, hlO, hkl]
   ·clear b1 b2 b4 b5 b6;rintro mz s2 H2 ⟨j, hj, rfl, rfl, b1, b2, b4, b5, b6, b7, b8⟩;have hjl : (rowA ((r.take j).map (zM0 O))).length = j := by rw [za0, List.length_map, List.length_take]; omega
    rcases Nat.lt_or_ge j I with hjI|hjI
    ·have hjI' : (j : Int) < I := by omega
     have eE := zg0 r j (by omega);have hsj : rowA ((r.take j).map (zM0 O)) ++ [eA (zM0 O (r.getD j (0, 0)))] = rowA ((r.take (j + 1)).map (zM0 O)) := by rw [qay9 r (0, 0) j (by omega), List.map_append, zav9]; rfl
     generalize r.getD j (0, 0) = e at *;obtain ⟨x1, x2⟩ := e;simp only [eA, zM0] at eE hsj;have hiJ : ∀ p, idsE p (rowA ((r.take (j + 1)).map (zM0 O))) = true := fun p => wj0 _ _;obtain ⟨RJ2, hRJ2⟩ : ∃ x, x = rowA ((r.take (j + 1)).map (zM0 O)) := ⟨_, rfl⟩;rw [← hRJ2] at hsj hiJ;generalize rowA ((r.take j).map (zM0 O)) = RJ at *;repeat' (first|(first|refine nav ?_|(refine g0_ ?_; first|refine dN (p := [0, 0, 0, 1, 0, 0, 1, 0, 1, 0, 0, 1, 0, 0, 1, 0, 1, 1]) [] [] [(11, 12)] ?_|refine goD ?_))|(with_reducible first|refine gG ?_ ?_|refine ⟨fun h => ?_, fun h => ?_⟩ <;> try omega|refine andG ?_)|simp (disch := try exact qa0) only [push_cast, simprocAttr, b1, b2, b4, b5, b6, b7, b8, hlO, hkl, hjl, hjI', eO, eR, eE, hlR, hrl])
     refine go_loop rfl (fun mz s3 H3 => ∃ n : Nat, n ≤ O.length ∧ mz = O.length - n ∧ H3 = [.row 3 30 [[.int .i64 I, .int .i64 o, .sl 1 (xb0 la) c]], .row 3 30 [[.int .i64 0, .int .i64 0, .sl 0 [] (some 0)]], .row 3 30 [[.int .i64 I, .int .i64 o, .own 3 k k none]], .row 1 97 RW, .row 2 91 RJ, .row 2 91 [[.int .i64 x1, .int .i64 x2]]] ∧ s3 1 = .sl 1 (ints O) co ∧ s3 2 = .ptr 0 0 0 1 ∧ s3 4 = .ptr 1 0 0 1 ∧ s3 5 = .ptr 2 0 0 1 ∧ s3 6 = .int .i64 k ∧ s3 7 = .own 4 j j none ∧ s3 8 = .int .i64 j ∧ s3 9 = .ptr 5 0 0 1 ∧ s3 10 = .int .i64 (toP O x1 n) ∧ s3 11 = .int .i64 n) (m := O.length) (by first|exact wb0|fail) (Weak.refl _ _) ⟨0, by omega, by omega, rfl, ?_⟩ ?_
     ·simp (disch := try exact qa0) only [push_cast, simprocAttr, b1, b2, b4, b5, b6, b7, b8, hlO, hkl, hjl, hjI', eO, eR, eE, hlR, hrl];rfl
     ·clear b1 b2 b4 b5 b6 b7 b8;rintro mz s3 H3 ⟨n, hn, rfl, rfl, b1, b2, b4, b5, b6, b7, b8, b9, b10, b11⟩;rcases Nat.lt_or_ge n O.length with hnl|hnl
      ·have e3 := wc0 O n hnl;have htp : toP O x1 (n + 1) = if O.getD n 0 = x1 then (n : Int) else toP O x1 n := rfl
       generalize O.getD n 0 = y at *;by_cases hy : y = x1
       ·rw [if_pos hy] at htp;repeat' (first|(first|refine nav ?_|(refine g0_ ?_; first|refine dN (p := [0, 0, 0, 1, 0, 0, 1, 0, 1, 0, 0, 1, 0, 0, 1, 0, 1, 1]) [] [] [(11, 12)] ?_|refine goD ?_))|(with_reducible first|refine gG ?_ ?_|refine ⟨fun h => ?_, fun h => ?_⟩ <;> try omega|refine andG ?_)|simp (disch := try exact qa0) only [push_cast, simprocAttr, b1, b2, b4, b5, b6, b7, b8, b9, b10, b11, hlO, e3, hy])
        refine qb0 (O.length - (n + 1)) (by omega) (by first|exact wb0|fail) ⟨n + 1, by omega, rfl, rfl, ?_⟩;rw [htp];simp (disch := try exact qa0) only [push_cast, simprocAttr, b1, b2, b4, b5, b6, b7, b8, b9, b10, b11, hlO, e3, hy]
       ·rw [if_neg hy] at htp;repeat' (first|(first|refine nav ?_|(refine g0_ ?_; first|refine dN (p := [0, 0, 0, 1, 0, 0, 1, 0, 1, 0, 0, 1, 0, 0, 1, 0, 1, 1]) [] [] [(11, 12)] ?_|refine goD ?_))|(with_reducible first|refine gG ?_ ?_|refine ⟨fun h => ?_, fun h => ?_⟩ <;> try omega|refine andG ?_)|simp (disch := try exact qa0) only [push_cast, simprocAttr, b1, b2, b4, b5, b6, b7, b8, b9, b10, b11, hlO, e3, hy])
        refine qb0 (O.length - (n + 1)) (by omega) (by first|exact wb0|fail) ⟨n + 1, by omega, rfl, rfl, ?_⟩;rw [htp];simp (disch := try exact qa0) only [push_cast, simprocAttr, b1, b2, b4, b5, b6, b7, b8, b9, b10, b11, hlO, e3, hy]
      ·obtain rfl : n = O.length := by omega
       rw [vci9 hnd] at b10;repeat' (first|(first|refine nav ?_|(refine g0_ ?_; first|refine dN (p := [0, 0, 0, 1, 0, 0, 1, 0, 1, 0, 0, 1, 0, 0, 1, 0, 1, 1]) [] [] [(11, 12)] ?_|refine goD ?_))|(with_reducible first|refine gG ?_ ?_|refine ⟨fun h => ?_, fun h => ?_⟩ <;> try omega|refine andG ?_)|simp (disch := try exact qa0) only [push_cast, simprocAttr, b1, b2, b4, b5, b6, b7, b8, b9, b10, b11, hlO, hjl])
       rw [hsj];refine va0 (I - (j + 1)) 5 (by omega) (by first|exact wb0|fail) (by omega) (by simp) (by simp [Blk.below, idsE, idsL, AV.ids, hidR, hiW, hiJ]) ⟨j + 1, by omega, rfl, by simp only [List.take, hRJ2], ?_⟩;simp (disch := try exact qa0) only [push_cast, simprocAttr, b1, b2, b4, b5, b6, b7, b8, qe0, AV.ids, idsL, hidO]
    ·obtain rfl : j = I := by omega
     have hnj : ¬ ((j : Int) < j) := by omega
     rw [List.take_of_length_le (by omega)] at hjl ⊢;repeat' (first|(first|refine nav ?_|(refine g0_ ?_; first|refine dN (p := [0, 0, 0, 1, 0, 0, 1, 0, 1, 0, 0, 1, 0, 0, 1, 0, 1, 1]) [] [] [(11, 12)] ?_|refine goD ?_))|(with_reducible first|refine gG ?_ ?_|refine ⟨fun h => ?_, fun h => ?_⟩ <;> try omega|refine andG ?_)|simp (disch := try exact qa0) only [push_cast, simprocAttr, b1, b2, b4, b5, b6, b7, b8, hlO, hkl, hjl])
     have hiR : ∀ p, idsE p (rowA (r.map (zM0 O))) = true := fun p => wj0 _ _;obtain ⟨RX, hRX⟩ : ∃ x, x = rowA (r.map (zM0 O)) := ⟨_, rfl⟩;rw [← hRX] at hjl hiR hsn ⊢;have htk : RX.take j = RX := List.take_of_length_le (by omega);refine vg0 (O.length - (k + 1)) 4 (j := 4) rfl (by omega) (by first|exact wb0|fail) (by omega) (by simp [frzH]) (by simp [frzH, frzB, frz, qi0, Blk.below, idsE, idsL, AV.ids, zd0, hidR, hiW, hiR, hjl, htk]) ⟨k + 1, by omega, rfl, by rw [← hRW2, hsn]; simp [frzH, frzB, frz, qi0, Blk.below, idsE, idsL, AV.ids, zd0, hidR, hiW, hiR, hjl, htk], ?_⟩;simp (disch := try exact qa0) only [push_cast, simprocAttr, b1, b2, b4, b5, b6, b7, b8, qe0, AV.ids, idsL, hidO, frz]
  ·obtain rfl : k = O.length := by omega
   rw [List.take_of_length_le (by omega)] at hkl ⊢;have hnl : (vj0 (vp0 O (edgesOf la))).length = O.length := by rw [kw0, hPl]
   have hiW : ∀ p, idsE p (xb0 (vj0 (vp0 O (edgesOf la)))) = true := fun p => ke0 _ _;have htk : (xb0 (vj0 (vp0 O (edgesOf la)))).take O.length = xb0 (vj0 (vp0 O (edgesOf la))) := List.take_of_length_le (by omega);repeat' (first|(first|refine nav ?_|(refine g0_ ?_; first|refine dN (p := [0, 0, 0, 1, 0, 0, 1, 0, 1, 0, 0, 1, 0, 0, 1, 0, 1, 1]) [] [] [(11, 12)] ?_|refine goD ?_))|(with_reducible first|refine gG ?_ ?_|refine ⟨fun h => ?_, fun h => ?_⟩ <;> try omega|refine andG ?_)|simp (disch := try exact qa0) only [push_cast, simprocAttr, b1, b2, b4, b5, b6, hlO, hkl, hiW, htk, hnl])
theorem wdt9 (a b : List Nat) : nI (a ++ b) = nI a ++ nI b := by simp [nI]
theorem vcH9 (a b : List Int) : ints (a ++ b) = ints a ++ ints b := by simp [ints]
theorem kci9 (b z : List Nat) (d : Nat) : (ints (nI (b ++ d :: z))).getD b.length [] = [.int .i64 (d : Nat)] ∧ ∀ v : Nat, (ints (nI (b ++ d :: z))).set b.length [.int .i64 (v : Nat)] = ints (nI (b ++ v :: z)) := by
 have e : ∀ d : Nat, ints (nI (b ++ d :: z)) = ints (nI b) ++ [.int .i64 (d : Nat)] :: ints (nI z) := fun d => by rw [wdt9, vcH9]; rfl
 have hl : (ints (nI b)).length = b.length := by rw [zb0, wM0]
 rw [e, ← hl];refine ⟨?_, fun v => ?_⟩
 ·simp
 ·rw [e, List.set_append_right _ _ (Nat.le_refl _), Nat.sub_self]; rfl
theorem vde9 (I : Nat) (z : Nat) (c : Option Nat) (hI : I ≤ 1000) : PC Tryd.prog G0 98 [.sl z [] c, .int .i64 I] (.sl 1 (ints (nI (wE0 I []))) none) := by
 have e : ints (nI (wE0 I [])) = [[.int .i64 0]] := rfl;rw [e];refine wf0 1 37 [.tmp 4] Tryd.func98 rfl rfl rfl (by simp) ?_;intro s ⟨a0, a1, hz⟩;simp only [Nat.zero_add, Nat.reduceAdd] at a1;clear hz;repeat' (first|(refine g0_ ?_; with_reducible refine zcb9 [] (p := [0, 1]) rfl rfl ?_)|(refine a0_ ?_; refine zbn9 rfl ?_)|(first|refine nav ?_|(refine g0_ ?_; first|refine goD ?_|refine zau9 1 rfl ?_))|(with_reducible first|refine gG ?_ ?_|refine ⟨fun h => ?_, fun h => ?_⟩ <;> try omega|refine andG ?_)|simp (disch := try exact qa0) only [push_cast, simprocAttr, a0, a1])
 exact (by decide : 1 ≤ maxLen)
theorem kde9 (I : Nat) (w : List Nat) (c : Option Nat) (hI : I ≤ 1000) (hw : ∀ d ∈ w, d < I) (hl : w.length ≤ 1000000) : PC Tryd.prog G0 98 [.sl 1 (ints (nI w)) c, .int .i64 I] (.sl 1 (ints (nI (wE0 I w))) none) := by
 have hL : (ints (nI w)).length = w.length := by rw [zb0, wM0]
 have hid : ∀ w p, idsE p (ints (nI w)) = true := fun w p => wl0 _ _;have hidw := hid w;refine wf0 1 37 [.tmp 4] Tryd.func98 rfl rfl rfl (by simp) ?_;intro s ⟨a0, a1, hz⟩;simp only [Nat.zero_add, Nat.reduceAdd] at a1;clear hz;repeat' (first|(refine g0_ ?_; with_reducible refine zcb9 [] (p := [0, 1]) rfl rfl ?_)|(refine a0_ ?_; refine zbn9 rfl ?_)|refine nv ?_|(with_reducible first|refine gG ?_ ?_|refine ⟨fun h => ?_, fun h => ?_⟩ <;> try omega|refine andG ?_)|simp (disch := try exact qa0) only [push_cast, simprocAttr, a0, a1, hL])
 refine go_loop rfl (fun mz s' H' => ∃ b z : List Nat, mz = b.length ∧ w = b ++ z ∧ (∀ e ∈ z, I ≤ e + 1) ∧ H' = [.row 1 3 (ints (nI (b ++ List.replicate z.length 0)))] ∧ s' 1 = .int .i64 I ∧ s' 5 = .own 0 w.length w.length none ∧ s' 6 = .int .i64 ((b.length : Int) - 1)) (m := w.length) (by first|exact wb0|fail) (Weak.refl _ _) ⟨w, [], rfl, by simp, by simp, by simp, ?_⟩ ?_
 ·simp (disch := try exact qa0) only [push_cast, simprocAttr, a0, a1, hL]
 ·rintro mz s' H' ⟨b, z, rfl, hwb, hz, rfl, b1, b5, b6⟩;have hlb : w.length = b.length + z.length := by rw [hwb, List.length_append]
  rcases List.eq_nil_or_concat b with rfl|⟨a, d, rfl⟩
  ·have hnx := zci9 (I := I) (w := w) (by rw [hwb]; exact hz);have hsn : ints (nI (List.replicate z.length 0)) ++ [[.int .i64 0]] = ints (nI (wE0 I w)) := by rw [hnx, hwb]; simp [nI, ints]
   have hlz : (ints (nI (List.replicate z.length 0))).length = w.length := by rw [zb0, wM0, List.length_replicate]; simp at hlb; omega
   have hln : (ints (nI (wE0 I w))).length = w.length + 1 := by rw [← hsn, List.length_append, hlz]; rfl
   have htk : (ints (nI (wE0 I w))).take (w.length + 1) = ints (nI (wE0 I w)) := List.take_of_length_le (by omega);have hidn := hid (wE0 I w);rw [List.nil_append];rw [show ((([] : List Nat).length : Nat) : Int) - 1 = -1 from rfl] at b6;generalize ints (nI (List.replicate z.length 0)) = ZZ at *;repeat' (first|refine nv ?_|(with_reducible first|refine gG ?_ ?_|refine ⟨fun h => ?_, fun h => ?_⟩ <;> try omega|refine andG ?_)|simp (disch := try exact qa0) only [push_cast, simprocAttr, b1, b5, b6, hlz, hsn, htk, hidn])
   omega
  ·have hal : (a.concat d).length = a.length + 1 := by simp
   rw [hal] at hlb b6;have hb6 : ((a.length + 1 : Nat) : Int) - 1 = a.length := by omega
   rw [hb6] at b6;have hd : d < I := hw d (by rw [hwb]; simp);have hwa : w = a ++ d :: z := by rw [hwb]; simp
   rw [show a.concat d ++ List.replicate z.length 0 = a ++ d :: List.replicate z.length 0 by simp];obtain ⟨eg, es⟩ := kci9 a (List.replicate z.length 0) d;have hidL := hid (a ++ d :: List.replicate z.length 0);have hlL : (ints (nI (a ++ d :: List.replicate z.length 0))).length = w.length := by rw [zb0, wM0, hlb]; simp; omega
   by_cases hq : d + 1 < I
   ·have hqi : (d : Int) + 1 < I := by omega
    have hm := es (d + 1);rw [← qaQ9 hq hz, ← hwa, show ((d + 1 : Nat) : Int) = (d : Int) + 1 from rfl] at hm;have hln : (ints (nI (wE0 I w))).length = w.length := by rw [zb0, wM0, hwa, qaQ9 hq hz]; simp
    have hln2 : (nI (wE0 I w)).length = w.length := by rw [wM0, hwa, qaQ9 hq hz]; simp
    have htk : (ints (nI (wE0 I w))).take w.length = ints (nI (wE0 I w)) := List.take_of_length_le (by omega);have hidn := hid (wE0 I w);clear es;generalize ints (nI (a ++ d :: List.replicate z.length 0)) = LL at *;repeat' (first|refine nv ?_|(with_reducible first|refine gG ?_ ?_|refine ⟨fun h => ?_, fun h => ?_⟩ <;> try omega|refine andG ?_)|simp (disch := try exact qa0) only [push_cast, simprocAttr, b1, b5, b6, hlL, eg, hm, htk, hidn, hln2])
    omega
   ·have hqi : ¬ (d : Int) + 1 < I := by omega
    have hm := es 0;clear es;generalize ints (nI (a ++ d :: List.replicate z.length 0)) = LL at *;repeat' (first|refine nv ?_|(with_reducible first|refine gG ?_ ?_|refine ⟨fun h => ?_, fun h => ?_⟩ <;> try omega|refine andG ?_)|simp (disch := try exact qa0) only [push_cast, simprocAttr, b1, b5, b6, hlL, eg])
    refine qb0 a.length (by simp) (by first|exact wb0|fail) ⟨a, d :: z, rfl, hwa, by intro e he; rcases List.mem_cons.1 he with rfl|h; omega; exact hz e h, ?_, ?_⟩
    ·rw [List.length_cons, List.replicate_succ, ← hm]; rfl
    ·simp (disch := try exact qa0) only [push_cast, simprocAttr, b1, b5, b6, hlL, eg]
theorem vdt9 (I : Nat) (w : List Nat) (z : Nat) (c : Option Nat) (hz : w = [] ∨ z = 1) (hI : I ≤ 1000) (hw : ∀ d ∈ w, d < I) (hl : w.length ≤ 1000000) : PC Tryd.prog G0 98 [.sl z (ints (nI w)) c, .int .i64 I] (.sl 1 (ints (nI (wE0 I w))) none) := by
 rcases hz with rfl|rfl
 ·exact vde9 I z c hI
 ·exact kde9 I w c hI hw hl
def nxtE (la : List Row) (s : Int) (a : Nat) : Edg := if s < 0 then (-1, -1) else (la.getD s.toNat ([], none)).1.getD a (0, 0)
theorem qcj9 (la : List Row) (s : Int) (a : Nat) : (nxtE la s a).1 = if s < 0 then -1 else toAt la s a := by
 unfold nxtE toAt;by_cases h : s < 0
 ·rw [if_pos h, if_pos h]
 ·rw [if_neg h, if_neg h]; rfl
theorem kdE9 (I : Nat) (o : Int) (la : List Row) (c : Option Nat) (hla : la.length ≤ 1000000) (hI : I ≤ 1000) (hw : ∀ s, s < la.length → (la.getD s ([], none)).1.length = I) (s : Int) (a : Nat) (hs : s = -1 ∨ (0 ≤ s ∧ s < la.length)) (ha : a < I) : PC Tryd.prog G0 65 [mA I o la c, .int .i64 s, .int .i64 a] (.agg (eA (nxtE la s a))) := by
 unfold mA;rcases hs with rfl|⟨h0, h1⟩
 ·rw [nxtE, if_pos (by omega)];unfold eA;refine wf0 0 18 [.cell 6 91] Tryd.func65 rfl rfl rfl (by simp) ?_;intro s ⟨a0, a1, a2, hz⟩;simp only [Nat.zero_add, Nat.reduceAdd] at a1 a2;clear hz;repeat' (first|refine nv ?_|(with_reducible first|refine gG ?_ ?_|refine ⟨fun h => ?_, fun h => ?_⟩ <;> try omega|refine andG ?_)|simp (disch := try exact qa0) only [push_cast, simprocAttr, a0, a1, a2])
 ·obtain ⟨q, rfl⟩ : ∃ q : Nat, s = q := ⟨s.toNat, by omega⟩;rw [nxtE, if_neg (by omega), Int.toNat_natCast];have hq : q < la.length := by omega
  have hlen := hw q hq;have hrow := xf0 la q hq;generalize (la.getD q ([], none)).1 = r at *;generalize (la.getD q ([], none)).2 = cr at *;have e4 := zg0 r a (by omega);generalize r.getD a (0, 0) = f at *;unfold eA at *;refine wf0 0 18 [.cell 6 91] Tryd.func65 rfl rfl rfl (by simp) ?_;intro s ⟨a0, a1, a2, hz⟩;simp only [Nat.zero_add, Nat.reduceAdd] at a1 a2;clear hz;repeat' (first|refine nv ?_|(with_reducible first|refine gG ?_ ?_|refine ⟨fun h => ?_, fun h => ?_⟩ <;> try omega|refine andG ?_)|simp (disch := try exact qa0) only [push_cast, simprocAttr, a0, a1, a2, hrow, hlen, e4])
  all_goals omega
theorem kdt9 (I : Nat) (o : Int) (la : List Row) (c : Option Nat) (hla : la.length ≤ 1000000) (hI : I ≤ 1000) (hw : ∀ s, s < la.length → (la.getD s ([], none)).1.length = I) (hA : kal9 I la.length la) : ∀ (w : List Nat) (zw : Nat) (cw : Option Nat) (s : Int), (w = [] ∨ zw = 1) → (s = -1 ∨ (0 ≤ s ∧ s < la.length)) → (∀ a ∈ w, a < I) → w.length ≤ 1000000 → PC Tryd.prog G0 63 [mA I o la c, .int .i64 s, .sl zw (ints (nI w)) cw] (.int .i64 (aftM la s w))
 | [], zw, cw, s, hz, hs, hb, hl => by
  have e : ints (nI []) = [] := rfl;rw [e];unfold mA;refine wf0 0 22 [.tmp 6] Tryd.func63 rfl rfl rfl (by simp) ?_;intro s ⟨a0, a1, a2, hz⟩;simp only [Nat.zero_add, Nat.reduceAdd] at a1 a2;clear hz;repeat' (first|refine nv ?_|(with_reducible first|refine gG ?_ ?_|refine ⟨fun h => ?_, fun h => ?_⟩ <;> try omega|refine andG ?_)|simp (disch := try exact qa0) only [push_cast, simprocAttr, a0, a1, a2])
  rfl
 | y :: w, zw, cw, s, hz, hs, hb, hl => by
  obtain rfl := hz.resolve_left (by simp);have hy := hb y List.mem_cons_self;have h1 := kdE9 I o la c hla hI hw s y hs hy;have hl2 : w.length ≤ 1000000 := by simp at hl; omega
  have hr : (nxtE la s y).1 = -1 ∨ (0 ≤ (nxtE la s y).1 ∧ (nxtE la s y).1 < la.length) := by
   rw [qcj9];rcases hs with rfl|hs
   ·exact .inl rfl
   ·rw [if_neg (by omega)]; exact hA s y hs hy
  have h2 := fun c2 => kdt9 I o la c hla hI hw hA w 1 c2 (nxtE la s y).1 (.inr rfl) hr (fun x hx => hb x (List.mem_cons_of_mem _ hx)) hl2;rw [aftM, ← qcj9];generalize aftM la (nxtE la s y).1 w = u at *;generalize nxtE la s y = e at *;have ec : ints (nI (y :: w)) = [.int .i64 (y : Nat)] :: ints (nI w) := rfl;rw [ec];have hlw : (ints (nI w)).length = w.length := by rw [zb0, wM0]
  have hd : ((([.int .i64 (y : Nat)] :: ints (nI w)) : List (List AV)).take ((w.length : Int) + 1).toNat).drop 1 = ints (nI w) := by
   rw [show ((w.length : Int) + 1).toNat = w.length + 1 by omega, List.take_succ_cons, List.drop_succ_cons, List.drop_zero, List.take_of_length_le (by omega)]
  unfold mA at *;simp only [eA] at h1;refine wf0 0 22 [.tmp 6] Tryd.func63 rfl rfl rfl (by simp) ?_;intro s ⟨a0, a1, a2, hz⟩;simp only [Nat.zero_add, Nat.reduceAdd] at a1 a2;clear hz;repeat' (first|refine nv ?_|(with_reducible first|refine gG ?_ ?_|refine ⟨fun h => ?_, fun h => ?_⟩ <;> try omega|refine andG ?_)|refine cp_ h1 ?_|refine cp_ (h2 _) ?_|simp (disch := try exact qa0) only [push_cast, simprocAttr, a0, a1, a2, hlw, hd])
end Go.Proofs
