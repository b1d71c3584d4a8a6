import Derived.Test.YtbgdagokjfmcbaaDoorE9
namespace Go.Proofs
open Go Go.V
set_option linter.unusedVariables false
set_option linter.unusedSimpArgs false
set_option maxHeartbeats 0
def matT (s n : Nat) (mk : Nat → Nat → Bool) (c : Option Nat) : List (List AV) := (List.range s).map fun s => [.sl 1 (vq0 n (mk s)) c]
theorem xcI9 (n : Nat) (mk : Nat → Nat → Bool) (c : Option Nat) : matT n n mk c = matA n mk c := rfl
theorem kbz9 (s n : Nat) (mk : Nat → Nat → Bool) (c : Option Nat) : (matT s n mk c).length = s := by simp [matT]
theorem wbg9 (s n : Nat) (mk : Nat → Nat → Bool) (c : Option Nat) : matT s n mk c ++ [[.sl 1 (vq0 n (mk s)) c]] = matT (s + 1) n mk c := by simp [matT, List.range_succ]
theorem qdg9 (s n : Nat) (mk : Nat → Nat → Bool) (c : Option Nat) (x : List AV) : (matT s n mk c ++ [x]).getD s [] = x := by simp [matT]
theorem vbr9 {n : Nat} {f g : Nat → Bool} (h : ∀ j, j < n → f j = g j) : vq0 n f = vq0 n g := List.map_congr_left fun j hj => by rw [h j (List.mem_range.1 hj)]
theorem qai9 (n : Nat) : List.replicate n [AV.bool false] = vq0 n (fun _ => false) := by
 refine List.ext_getElem (by simp [vq0]) fun k h1 h2 => ?_;simp [vq0]
theorem kcl9 (n t : Nat) (f : Nat → Bool) : (vq0 n (fun j => decide (j < t) && f j)).set t [.bool (f t)] = vq0 n (fun j => decide (j < t + 1) && f j) := by
 refine List.ext_getElem (by simp [vq0]) fun k h1 h2 => ?_;rw [List.getElem_set];by_cases h : t = k
 ·subst h; simp [vq0]
 ·rw [if_neg h];have e : decide (k < t + 1) = decide (k < t) := by rw [decide_eq_decide]; omega
  simp [vq0, e]
theorem zai9 (p : Nat → Bool) (n : Nat) (f : Nat → Bool) : idsE p (vq0 n f) = true := zn0 _ _ fun x => by simp [idsL, AV.ids]
theorem xad9 (p : Nat → Bool) (s n : Nat) (mk : Nat → Nat → Bool) (c : Option Nat) : idsE p (matT s n mk c) = true := zn0 _ _ fun x => by simp [idsL, AV.ids, zai9]
set_option maxRecDepth 100000 in
theorem wcI9 (I n : Nat) (o : Int) (l : List Row) (c : Option Nat) (k : Nat) (hn : l.length = n) (hn1 : 1 ≤ n) (hw : ∀ j, j < n → ((edgesOf l).getD j []).length = I)
  (hto : ∀ j i, j < n → i < I → (((edgesOf l).getD j []).getD i (0, 0)).1 < n) (hnb : n ≤ 1000) (hI : I ≤ 100) (hk : k ≤ 1000) :
  PC Tryd.prog G0 54 [.agg [.int .i64 I, .int .i64 o, .sl 1 (xb0 l) c], .int .i64 k] (.sl 1 (matA n (markM I (edgesOf l) k) (some n)) none) := by
 have hap := fun mk s t hs ht => kdf9 I n o l c mk (some n) none s t hs ht hn hw hto hnb hI;have hid : ∀ p, idsE p (xb0 l) = true := fun p => ke0 _ _;have hrl : (xb0 l).length = n := by rw [wa0, hn]
 have hm1 : ∀ r s t, markM I (edgesOf l) (r + 1) s t = (markM I (edgesOf l) r s t || apartM I (edgesOf l) (markM I (edgesOf l) r) s t) := fun r s t => rfl;have hrep : ∀ p, idsE p (List.replicate n [AV.bool false]) = true := fun p => by rw [qai9]; exact zai9 _ _ _
 have hm0 : markM I (edgesOf l) 0 = fun _ _ => false := rfl;generalize xb0 l = RA at *;generalize edgesOf l = R at *;clear hw hto;refine wf0 0 68 [.tmp 4] Tryd.func54 rfl rfl rfl (by simp) ?_;intro s ⟨a0, a1, hz⟩;simp only [Nat.zero_add, Nat.reduceAdd] at a1;clear hz;repeat' (first|refine nv ?_|(with_reducible first|refine gG ?_ ?_|refine ⟨fun h => ?_, fun h => ?_⟩ <;> try omega|refine andG ?_)|simp (disch := try exact qa0) only [push_cast, simprocAttr, a0, a1, hrl])
 refine go_loop rfl (fun mz s' H' => ∃ s : Nat, s ≤ n ∧ mz = n - s ∧ H' = [.row 3 30 [[.int .i64 I, .int .i64 o, .sl 1 RA c]], .row 1 106 (matT s n (fun _ _ => false) (some n))] ∧ s' 1 = .int .i64 k ∧ s' 2 = .ptr 0 0 0 1 ∧ s' 5 = .int .i64 n ∧ s' 6 = .own 1 s s none ∧ s' 7 = .int .i64 s) (m := n) (by first|exact wb0|fail) (kv0 (t := 6) (sz := 1) (ty := 106) rfl) ⟨0, by omega, by omega, rfl, ?_⟩ ?_
 ·simp (disch := try exact qa0) only [push_cast, simprocAttr, a0, a1, hrl]
 ·rintro mz s' H' ⟨s, hs, rfl, rfl, b1, b2, b5, b6, b7⟩;have hml := kbz9 s n (fun _ _ => false) (some n);have et : (matT s n (fun _ _ => false) (some n)).take s = matT s n (fun _ _ => false) (some n) := List.take_of_length_le (by omega);have ed : (matT s n (fun _ _ => false) (some n)).drop (s + 1) = [] := List.drop_eq_nil_of_le (by omega);have hmid : ∀ p, idsE p (matT s n (fun _ _ => false) (some n)) = true := fun p => xad9 _ _ _ _ _;have hsn := wbg9 s n (fun _ _ => false) (some n);rw [← qai9] at hsn;rcases Nat.lt_or_ge s n with hlt|hge
  ·skip
   repeat' (first|refine nv ?_|(with_reducible first|refine gG ?_ ?_|refine ⟨fun h => ?_, fun h => ?_⟩ <;> try omega|refine andG ?_)|simp (disch := try exact qa0) only [push_cast, simprocAttr, b1, b2, b5, b6, b7, hml, et, ed, hrl])
   refine vg0 (n - (s + 1)) 2 (j := 2) rfl (by omega) (by first|exact wb0|fail) (by omega) (by simp [frzH]) (by simp [frzH, frzB, frz, Blk.below, idsE, idsL, AV.ids, qi0, zd0, hmid, hid, hrep]) ⟨s + 1, by omega, rfl, ?_, ?_⟩
   ·rw [← hsn];simp [frzH, frzB, frz, qi0, hmid, hid]
   ·simp (disch := try exact qa0) only [push_cast, simprocAttr, b1, b2, b5, b6, b7, qe0, frz, AV.ids, idsL]
  ·obtain rfl : n = s := by omega
   repeat' (first|refine nv ?_|(with_reducible first|refine gG ?_ ?_|refine ⟨fun h => ?_, fun h => ?_⟩ <;> try omega|refine andG ?_)|simp (disch := try exact qa0) only [push_cast, simprocAttr, b1, b2, b5, b6, b7, hml, et, ed, hrl])
   refine go_loop rfl (fun mz s' H' => ∃ r : Nat, r ≤ k ∧ mz = k - r ∧ H' = [.row 3 30 [[.int .i64 I, .int .i64 o, .sl 1 RA c]]] ∧ s' 1 = .int .i64 k ∧ s' 2 = .ptr 0 0 0 1 ∧ s' 5 = .int .i64 n ∧ s' 6 = .sl 1 (matA n (markM I R r) (some n)) none ∧ s' 8 = .int .i64 r) (m := k) (by first|exact wb0|fail)
    ((xau9 (j := 1) (sz := 1) (t := 106) (es := matT n n (fun _ _ => false) (some n)) rfl).trans (wO0 (m := 1) (by omega) (by simp [frzH]) (by simp [frzH, frzB, frz, Blk.below, idsE, idsL, AV.ids, qi0, zd0, hmid, hid]))) ⟨0, by omega, by omega, by simp [frzH, frzB, frz, qi0, hid], ?_⟩ ?_
   ·rw [hm0, ← xcI9];simp (disch := try exact qa0) only [push_cast, simprocAttr, b1, b2, b5, b6, b7, qe0, frz, AV.ids, idsL, et];simp [hml, hmid, AV.ids]
   ·rintro mz s' H' ⟨r, hr, rfl, rfl, b1, b2, b5, b6, b8⟩;clear hmid hml et ed hsn;rcases Nat.lt_or_ge r k with hlt|hge
    ·have hap := hap (markM I R r);have hm1 := hm1 r;have hmA := waR9 n (markM I R r) (some n);have hmAl := xaR9 n (markM I R r) (some n);have hidA : ∀ p, idsE p (matA n (markM I R r) (some n)) = true := fun p => xad9 _ _ _ _ _;have hgA := fun s => zad9 n (markM I R r s);have hlA := fun s => qad9 n (markM I R r s);have hrow : ∀ s, (fun j => markM I R r s j || apartM I R (markM I R r) s j) = markM I R (r + 1) s := fun s => rfl;generalize matA n (markM I R r) (some n) = MA at *;repeat' (first|refine nv ?_|(with_reducible first|refine gG ?_ ?_|refine ⟨fun h => ?_, fun h => ?_⟩ <;> try omega|refine andG ?_)|simp (disch := try exact qa0) only [push_cast, simprocAttr, b1, b2, b5, b6, b8])
     refine go_loop rfl (fun mz s' H' => ∃ s : Nat, s ≤ n ∧ mz = n - s ∧ H' = [.row 3 30 [[.int .i64 I, .int .i64 o, .sl 1 RA c]], .row 1 106 (matT s n (markM I R (r + 1)) (some n))] ∧ s' 1 = .int .i64 k ∧ s' 2 = .ptr 0 0 0 1 ∧ s' 5 = .int .i64 n ∧ s' 6 = .sl 1 MA none ∧ s' 8 = .int .i64 r ∧ s' 9 = .own 1 s s none ∧ s' 10 = .int .i64 s) (m := n) (by first|exact wb0|fail) (kv0 (t := 9) (sz := 1) (ty := 106) rfl) ⟨0, by omega, by omega, rfl, ?_⟩ ?_
     ·simp (disch := try exact qa0) only [push_cast, simprocAttr, b1, b2, b5, b6, b8]
     ·rintro mz s' H' ⟨s, hs, rfl, rfl, b1, b2, b5, b6, b8, b9, b10⟩;have hml := kbz9 s n (markM I R (r + 1)) (some n);have et : (matT s n (markM I R (r + 1)) (some n)).take s = matT s n (markM I R (r + 1)) (some n) := List.take_of_length_le (by omega);have ed : (matT s n (markM I R (r + 1)) (some n)).drop (s + 1) = [] := List.drop_eq_nil_of_le (by omega);have hmid : ∀ p, idsE p (matT s n (markM I R (r + 1)) (some n)) = true := fun p => xad9 _ _ _ _ _;have hsn := wbg9 s n (markM I R (r + 1)) (some n);have hat := qdg9 s n (markM I R (r + 1)) (some n);have hfin0 : s = n → matT s n (markM I R (r + 1)) (some n) = matA n (markM I R (r + 1)) (some n) := fun h => by rw [h]; rfl
      generalize matT s n (markM I R (r + 1)) (some n) = MT at *;rcases Nat.lt_or_ge s n with hls|hges
      ·have eA := hmA s hls;repeat' (first|refine nv ?_|(with_reducible first|refine gG ?_ ?_|refine ⟨fun h => ?_, fun h => ?_⟩ <;> try omega|refine andG ?_)|simp (disch := try exact qa0) only [push_cast, simprocAttr, b1, b2, b5, b6, b8, b9, b10, hml, et, ed])
       refine go_loop rfl (fun mz s' H' => ∃ t : Nat, t ≤ n ∧ mz = n - t ∧ H' = [.row 3 30 [[.int .i64 I, .int .i64 o, .sl 1 RA c]], .row 1 106 (MT ++ [[.own 2 n n (some n)]]), .row 1 4 (vq0 n (fun j => decide (j < t) && markM I R (r + 1) s j))] ∧ s' 1 = .int .i64 k ∧ s' 2 = .ptr 0 0 0 1 ∧ s' 5 = .int .i64 n ∧ s' 6 = .sl 1 MA none ∧ s' 8 = .int .i64 r ∧ s' 9 = .own 1 (s + 1) (s + 1) none ∧ s' 10 = .int .i64 s ∧ s' 11 = .int .i64 t) (m := n) (by first|exact wb0|fail) (Weak.refl _ _) ⟨0, by omega, by omega, by simp [qai9], ?_⟩ ?_
       ·simp (disch := try exact qa0) only [push_cast, simprocAttr, b1, b2, b5, b6, b8, b9, b10, hml, et, ed]
       ·rintro mz s' H' ⟨t, ht, rfl, rfl, b1, b2, b5, b6, b8, b9, b10, b11⟩;have hPl := qad9 n (fun j => decide (j < t) && markM I R (r + 1) s j);rcases Nat.lt_or_ge t n with hlt2|hge2
        ·have e3 := hgA s t hlt2;have e4 := hlA s;have hcall := hap s t hls hlt2;have hset := kcl9 n t (markM I R (r + 1) s);simp only [hm1 s t] at hset;have ep := zad9 n (fun j => decide (j < t) && markM I R (r + 1) s j) t hlt2;rw [List.getD_eq_getElem?_getD] at ep;have hlM : (MT ++ [[AV.own 2 n n (some n)]]).length = s + 1 := by simp [hml]
         generalize vq0 n (fun j => decide (j < t) && markM I R (r + 1) s j) = PR at *;generalize vq0 n (markM I R r s) = BR at *;cases hb : markM I R r s t with
         | true =>
          rw [hb] at e3 hset;repeat' (first|refine nv ?_|(with_reducible first|refine gG ?_ ?_|refine ⟨fun h => ?_, fun h => ?_⟩ <;> try omega|refine andG ?_)|(refine ⟨AV.bool true, ?_⟩; refine kY0 ?_)|simp (disch := try exact qa0) only [push_cast, simprocAttr, b1, b2, b5, b6, b8, b9, b10, b11, eA, hmAl, e3, e4, hat, hPl, hlM])
          refine qb0 (n - (t + 1)) (by omega) (by first|exact wb0|fail) ⟨t + 1, by omega, rfl, by simpa [ep] using hset, ?_⟩;simp (disch := try exact qa0) only [push_cast, simprocAttr, b1, b2, b5, b6, b8, b9, b10, b11, eA, hmAl, e3, e4, hat, hPl, hlM]
         | false =>
          rw [hb] at e3 hset;cases hap2 : apartM I R (markM I R r) s t with
          | true =>
           rw [hap2] at hset hcall;repeat' (first|refine nv ?_|(with_reducible first|refine gG ?_ ?_|refine ⟨fun h => ?_, fun h => ?_⟩ <;> try omega|refine andG ?_)|refine cp_ hcall ?_ (hi := by (simp [idsL, idsE, AV.ids, hid, hidA]))|simp (disch := try exact qa0) only [push_cast, simprocAttr, b1, b2, b5, b6, b8, b9, b10, b11, eA, hmAl, e3, e4, hat, hPl, hlM])
           refine qb0 (n - (t + 1)) (by omega) (by first|exact wb0|fail) ⟨t + 1, by omega, rfl, by simpa [ep] using hset, ?_⟩;simp (disch := try exact qa0) only [push_cast, simprocAttr, b1, b2, b5, b6, b8, b9, b10, b11, eA, hmAl, e3, e4, hat, hPl, hlM]
          | false =>
           rw [hap2] at hset hcall;repeat' (first|refine nv ?_|(with_reducible first|refine gG ?_ ?_|refine ⟨fun h => ?_, fun h => ?_⟩ <;> try omega|refine andG ?_)|refine cp_ hcall ?_ (hi := by (simp [idsL, idsE, AV.ids, hid, hidA]))|simp (disch := try exact qa0) only [push_cast, simprocAttr, b1, b2, b5, b6, b8, b9, b10, b11, eA, hmAl, e3, e4, hat, hPl, hlM])
           refine qb0 (n - (t + 1)) (by omega) (by first|exact wb0|fail) ⟨t + 1, by omega, rfl, by simpa [ep] using hset, ?_⟩;simp (disch := try exact qa0) only [push_cast, simprocAttr, b1, b2, b5, b6, b8, b9, b10, b11, eA, hmAl, e3, e4, hat, hPl, hlM]
        ·obtain rfl : n = t := by omega
         have hfull : vq0 n (fun j => decide (j < n) && markM I R (r + 1) s j) = vq0 n (markM I R (r + 1) s) := vbr9 fun j hj => by simp [hj]
         rw [hfull] at hPl ⊢;have hidB : ∀ p, idsE p (vq0 n (markM I R (r + 1) s)) = true := fun p => zai9 _ _ _;have etB : (vq0 n (markM I R (r + 1) s)).take n = vq0 n (markM I R (r + 1) s) := List.take_of_length_le (by omega);generalize vq0 n (markM I R (r + 1) s) = PR at *;repeat' (first|refine nv ?_|(with_reducible first|refine gG ?_ ?_|refine ⟨fun h => ?_, fun h => ?_⟩ <;> try omega|refine andG ?_)|refine cp_ hcall ?_ (hi := by (simp [idsL, idsE, AV.ids, hid, hidA]))|simp (disch := try exact qa0) only [push_cast, simprocAttr, b1, b2, b5, b6, b8, b9, b10, b11])
         refine vg0 (n - (s + 1)) 2 (j := 2) rfl (by omega) (by first|exact wb0|fail) (by omega) (by simp [frzH]) (by simp [frzH, frzB, frz, Blk.below, idsE, idsL, AV.ids, qi0, zd0, hmid, hid, hidB, etB, hPl]) ⟨s + 1, by omega, rfl, ?_, ?_⟩
         ·rw [← hsn];simp [frzH, frzB, frz, qi0, hmid, hid, hidB, etB, hPl]
         ·simp (disch := try exact qa0) only [push_cast, simprocAttr, b1, b2, b5, b6, b8, b9, b10, b11, qe0, frz, AV.ids, idsL, hidA]
      ·obtain rfl : n = s := by omega
       repeat' (first|refine nv ?_|(with_reducible first|refine gG ?_ ?_|refine ⟨fun h => ?_, fun h => ?_⟩ <;> try omega|refine andG ?_)|refine cp_ hcall ?_ (hi := by (simp [idsL, idsE, AV.ids, hid, hidA]))|simp (disch := try exact qa0) only [push_cast, simprocAttr, b1, b2, b5, b6, b8, b9, b10, hml, et, ed])
       have hfin : MT = matA n (markM I R (r + 1)) (some n) := hfin0 rfl;refine vg0 (k - (r + 1)) 1 (j := 1) rfl (by omega) (by first|exact wb0|fail) (by omega) (by simp [frzH]) (by simp [frzH, frzB, frz, Blk.below, idsE, idsL, AV.ids, qi0, zd0, hmid, hid, et, hml]) ⟨r + 1, by omega, rfl, ?_, ?_⟩
       ·simp [frzH, frzB, frz, qi0, hid]
       ·rw [← hfin];simp (disch := try exact qa0) only [push_cast, simprocAttr, b1, b2, b5, b6, b8, b9, b10, qe0, frz, AV.ids, idsL, et];simp [hml, hmid, AV.ids]
    ·obtain rfl : k = r := by omega
     have hidF : ∀ p, idsE p (matA n (markM I R k) (some n)) = true := fun p => xad9 _ _ _ _ _;repeat' (first|refine nv ?_|(with_reducible first|refine gG ?_ ?_|refine ⟨fun h => ?_, fun h => ?_⟩ <;> try omega|refine andG ?_)|refine cp_ hcall ?_ (hi := by (simp [idsL, idsE, AV.ids, hid, hidA]))|simp (disch := try exact qa0) only [push_cast, simprocAttr, b1, b2, b5, b6, b8, hidF])
def shE (n : Nat) (e : Edg) : Edg := if 0 ≤ e.1 then (e.1 + n, e.2) else e
theorem qcm9 (n : Nat) (r : List Edg) : qM0 n r = r.map (shE n) := rfl
def besL (A B : List Row) : List Row := A ++ B.map fun r => (qM0 A.length r.1, none)
theorem xai9 (A B : List Row) : edgesOf (besL A B) = xA0 (edgesOf A) (edgesOf B) := by
 simp [edgesOf, besL, xA0, Function.comp_def]
theorem vaR9 (A B : List Row) : (besL A B).length = A.length + B.length := by simp [besL]
theorem zcm9 (A B : List Row) (b : Nat) (hb : b < B.length) : xb0 (besL A (B.take b)) ++ [[.sl 2 (rowA (qM0 A.length (B.getD b ([], none)).1)) none]] = xb0 (besL A (B.take (b + 1))) := by
 rw [besL, besL, wn0 _ B ([], none) b hb, ← List.append_assoc, xb0, xb0, List.map_append (l₂ := [_])]; rfl
theorem vcI9 (A : List Row) : besL A [] = A := by simp [besL]
theorem zaB9 (r : List Edg) (j n : Nat) (h : j < r.length) : rowA ((r.take j).map (shE n)) ++ [eA (shE n (r.getD j (0, 0)))] = rowA ((r.take (j + 1)).map (shE n)) := by
 rw [wn0 _ r (0, 0) j h, rowA, rowA, List.map_append (l₂ := [_])]; rfl
set_option maxRecDepth 100000 in
theorem kcI9 (I : Nat) (o o' : Int) (A B : List Row) (c c' : Option Nat) (z : Nat) (hz : A = [] ∨ z = 1) (hA : A.length ≤ 1000) (hB : B.length ≤ 1000) (hI : I ≤ 100) (hI1 : 1 ≤ I) (hwB : ∀ j, j < B.length → ((edgesOf B).getD j []).length = I)
  (hto : ∀ j i, j < B.length → i < I → -1000000 ≤ (((edgesOf B).getD j []).getD i (0, 0)).1 ∧ (((edgesOf B).getD j []).getD i (0, 0)).1 ≤ 1000000) :
  PC Tryd.prog G0 53 [.agg [.int .i64 I, .int .i64 o, .sl 1 (xb0 A) c], .agg [.int .i64 I, .int .i64 o', .sl 1 (xb0 B) c']] (.agg [.int .i64 I, .int .i64 (max o o'), .sl 1 (xb0 (besL A B)) none]) := by
 have hAl := wa0 A;have hBl := wa0 B;have hidA : ∀ p, idsE p (xb0 A) = true := fun p => ke0 _ _;have hidB : ∀ p, idsE p (xb0 B) = true := fun p => ke0 _ _;have hmx : (if o < o' then o' else o) = max o o' := by omega
 refine wf0 1 78 [.cell 4 30] Tryd.func53 rfl rfl rfl (by simp) ?_;intro s ⟨a0, a1, hz⟩;simp only [Nat.zero_add, Nat.reduceAdd] at a1;clear hz;repeat' (first|refine nv ?_|(with_reducible first|refine gG ?_ ?_|refine ⟨fun h => ?_, fun h => ?_⟩ <;> try omega|refine andG ?_)|simp (disch := try exact qa0) only [push_cast, simprocAttr, a0, a1, hAl, hBl])
 refine go_loop rfl (fun mz s' H' => ∃ s : Nat, s ≤ A.length ∧ mz = A.length - s ∧ H' = [.row 3 30 [[.int .i64 I, .int .i64 o, .sl 1 (xb0 A) c]], .row 3 30 [[.int .i64 I, .int .i64 o', .sl 1 (xb0 B) c']], .row 3 30 [[.int .i64 0, .int .i64 0, .sl 0 [] (some 0)]], .row 3 30 [[.int .i64 I, .int .i64 (max o o'), .own 4 s s none]], .row 1 97 (xb0 (A.take s))] ∧ s' 2 = .ptr 0 0 0 1 ∧ s' 3 = .ptr 1 0 0 1 ∧ s' 4 = .ptr 2 0 0 1 ∧ s' 5 = .ptr 3 0 0 1 ∧ s' 6 = .int .i64 s) (m := A.length) (by first|exact wb0|fail) (vi0 (b := 3) (i := 0) (j := 2) (sz := 1) (ty := 97) rfl rfl rfl) ⟨0, by omega, by omega, by simp [wcb9, hmx], ?_⟩ ?_
 ·simp (disch := try exact qa0) only [push_cast, simprocAttr, a0, a1, hAl, hBl]
 ·rintro mz s' H' ⟨s, hs, rfl, rfl, b2, b3, b4, b5, b6⟩;have hml : (xb0 (A.take s)).length = s := by rw [wa0, List.length_take]; omega
  have et : (xb0 (A.take s)).take s = xb0 (A.take s) := List.take_of_length_le (by omega);have ed : (xb0 (A.take s)).drop (s + 1) = [] := List.drop_eq_nil_of_le (by omega);rcases Nat.lt_or_ge s A.length with hlt|hge
  ·have e1 := xf0 A s hlt;have hsn : xb0 (A.take s) ++ [[.sl 2 (rowA (A.getD s ([], none)).1) (A.getD s ([], none)).2]] = xb0 (A.take (s + 1)) := by
    rw [xb0, xb0, wn0 _ A ([], none) s hlt]
   repeat' (first|refine nv ?_|(with_reducible first|refine gG ?_ ?_|refine ⟨fun h => ?_, fun h => ?_⟩ <;> try omega|refine andG ?_)|simp (disch := try exact qa0) only [push_cast, simprocAttr, b2, b3, b4, b5, b6, hml, et, ed, hAl, hBl, e1])
   refine qb0 (A.length - (s + 1)) (by omega) (by first|exact wb0|fail) ⟨s + 1, by omega, rfl, by rw [← hsn], ?_⟩;simp (disch := try exact qa0) only [push_cast, simprocAttr, b2, b3, b4, b5, b6, hml, et, ed, hAl, hBl, e1]
  ·obtain rfl : s = A.length := by omega
   rw [List.take_of_length_le (Nat.le_refl _)] at *;repeat' (first|refine nv ?_|(with_reducible first|refine gG ?_ ?_|refine ⟨fun h => ?_, fun h => ?_⟩ <;> try omega|refine andG ?_)|simp (disch := try exact qa0) only [push_cast, simprocAttr, b2, b3, b4, b5, b6, hml, et, ed, hAl, hBl])
   refine go_loop rfl (fun mz s' H' => ∃ b : Nat, b ≤ B.length ∧ mz = B.length - b ∧ H' = [.row 3 30 [[.int .i64 I, .int .i64 o, .sl 1 (xb0 A) c]], .row 3 30 [[.int .i64 I, .int .i64 o', .sl 1 (xb0 B) c']], .row 3 30 [[.int .i64 0, .int .i64 0, .sl 0 [] (some 0)]], .row 3 30 [[.int .i64 I, .int .i64 (max o o'), .own 4 (A.length + b) (A.length + b) none]], .row 1 97 (xb0 (besL A (B.take b)))] ∧ s' 2 = .ptr 0 0 0 1 ∧ s' 3 = .ptr 1 0 0 1 ∧ s' 4 = .ptr 2 0 0 1 ∧ s' 5 = .ptr 3 0 0 1 ∧ s' 7 = .int .i64 b) (m := B.length) (by first|exact wb0|fail) (Weak.refl _ _) ⟨0, by omega, by omega, by simp [vcI9], ?_⟩ ?_
   ·simp (disch := try exact qa0) only [push_cast, simprocAttr, b2, b3, b4, b5, b6, hml, et, ed, hAl, hBl]
   ·rintro mz s' H' ⟨b, hb, rfl, rfl, b2, b3, b4, b5, b7⟩;have hml : (xb0 (besL A (B.take b))).length = A.length + b := by rw [wa0, vaR9, List.length_take]; omega
    have et : (xb0 (besL A (B.take b))).take (A.length + b) = xb0 (besL A (B.take b)) := List.take_of_length_le (by omega);have ed : (xb0 (besL A (B.take b))).drop (A.length + b + 1) = [] := List.drop_eq_nil_of_le (by omega);have hidC : ∀ p, idsE p (xb0 (besL A (B.take b))) = true := fun p => ke0 _ _;rcases Nat.lt_or_ge b B.length with hltb|hgeb
    ·have e1 := xf0 B b hltb;have hsn := zcm9 A B b hltb;have hrl := hwB b hltb;have hrt := fun i => hto b i hltb;rw [kd0] at hrl hrt;rw [qcm9] at hsn;generalize (B.getD b ([], none)).1 = r at *;generalize xb0 (besL A (B.take b)) = RC at *;repeat' (first|refine nv ?_|(with_reducible first|refine gG ?_ ?_|refine ⟨fun h => ?_, fun h => ?_⟩ <;> try omega|refine andG ?_)|simp (disch := try exact qa0) only [push_cast, simprocAttr, b2, b3, b4, b5, b7, hml, et, ed, hAl, hBl, e1])
     refine go_loop rfl (fun mz s' H' => ∃ j : Nat, j ≤ I ∧ mz = I - j ∧ H' = [.row 3 30 [[.int .i64 I, .int .i64 o, .sl 1 (xb0 A) c]], .row 3 30 [[.int .i64 I, .int .i64 o', .sl 1 (xb0 B) c']], .row 3 30 [[.int .i64 0, .int .i64 0, .sl 0 [] (some 0)]], .row 3 30 [[.int .i64 I, .int .i64 (max o o'), .own 4 (A.length + b) (A.length + b) none]], .row 1 97 RC, .row 2 91 (rowA ((r.take j).map (shE A.length)))] ∧ s' 2 = .ptr 0 0 0 1 ∧ s' 3 = .ptr 1 0 0 1 ∧ s' 4 = .ptr 2 0 0 1 ∧ s' 5 = .ptr 3 0 0 1 ∧ s' 7 = .int .i64 b ∧ s' 8 = .own 5 j j none ∧ s' 9 = .int .i64 j) (m := I) (by first|exact wb0|fail) (kv0 (t := 8) (sz := 2) (ty := 91) rfl) ⟨0, by omega, by omega, by simp [xcz9], ?_⟩ ?_
     ·simp (disch := try exact qa0) only [push_cast, simprocAttr, b2, b3, b4, b5, b7, hml, et, ed, hAl, hBl, e1]
     ·rintro mz s' H' ⟨j, hj, rfl, rfl, b2, b3, b4, b5, b7, b8, b9⟩;have hmr : (rowA ((r.take j).map (shE A.length))).length = j := by rw [za0, List.length_map, List.length_take]; omega
      have etr : (rowA ((r.take j).map (shE A.length))).take j = rowA ((r.take j).map (shE A.length)) := List.take_of_length_le (by omega);have edr : (rowA ((r.take j).map (shE A.length))).drop (j + 1) = [] := List.drop_eq_nil_of_le (by omega);have hidR : ∀ p, idsE p (rowA ((r.take j).map (shE A.length))) = true := fun p => wj0 _ _;rcases Nat.lt_or_ge j I with hltj|hgej
      ·have e2 := zg0 r j (by omega);have hsr := zaB9 r j A.length (by omega);have hx := hrt j hltj;generalize rowA ((r.take j).map (shE A.length)) = RR0 at *;generalize r.getD j (0, 0) = x at *;obtain ⟨x1, x2⟩ := x;simp only [eA, shE] at e2 hsr;dsimp only at hx;by_cases h0 : 0 ≤ x1
       ·rw [if_pos h0] at hsr;repeat' (first|refine nv ?_|(with_reducible first|refine gG ?_ ?_|refine ⟨fun h => ?_, fun h => ?_⟩ <;> try omega|refine andG ?_)|simp (disch := try exact qa0) only [push_cast, simprocAttr, b2, b3, b4, b5, b7, b8, b9, hmr, etr, edr, hml, hAl, hBl, e1, e2, hrl, za0, h0])
        refine va0 (I - (j + 1)) 6 (by omega) (by first|exact wb0|fail) (by omega) (by simp) (by simp [Blk.below, idsE, idsL, AV.ids, hidA, hidB, hidC, hidR]) ⟨j + 1, by omega, rfl, by rw [← hsr]; rfl, ?_⟩;simp (disch := try exact qa0) only [push_cast, simprocAttr, b2, b3, b4, b5, b7, b8, b9, qe0, AV.ids, idsL]
       ·rw [if_neg h0] at hsr;repeat' (first|refine nv ?_|(with_reducible first|refine gG ?_ ?_|refine ⟨fun h => ?_, fun h => ?_⟩ <;> try omega|refine andG ?_)|simp (disch := try exact qa0) only [push_cast, simprocAttr, b2, b3, b4, b5, b7, b8, b9, hmr, etr, edr, hml, hAl, hBl, e1, e2, hrl, za0, h0])
        refine va0 (I - (j + 1)) 6 (by omega) (by first|exact wb0|fail) (by omega) (by simp) (by simp [Blk.below, idsE, idsL, AV.ids, hidA, hidB, hidC, hidR]) ⟨j + 1, by omega, rfl, by rw [← hsr]; rfl, ?_⟩;simp (disch := try exact qa0) only [push_cast, simprocAttr, b2, b3, b4, b5, b7, b8, b9, qe0, AV.ids, idsL]
      ·obtain rfl : I = j := by omega
       have hrf : r.take I = r := List.take_of_length_le (by omega);simp only [hrf] at hmr etr edr hidR ⊢;repeat' (first|refine nv ?_|(with_reducible first|refine gG ?_ ?_|refine ⟨fun h => ?_, fun h => ?_⟩ <;> try omega|refine andG ?_)|simp (disch := try exact qa0) only [push_cast, simprocAttr, b2, b3, b4, b5, b7, b8, b9, hmr, etr, edr, hml, et, ed, hAl, hBl])
       refine vg0 (B.length - (b + 1)) 5 (j := 5) rfl (by omega) (by first|exact wb0|fail) (by omega) (by simp [frzH]) (by simp [frzH, frzB, frz, Blk.below, idsE, idsL, AV.ids, qi0, zd0, hidA, hidB, hidC, hidR, etr, hmr]) ⟨b + 1, by omega, rfl, ?_, ?_⟩
       ·rw [← hsn];simp [frzH, frzB, frz, qi0, hidA, hidB, hidC, hidR, etr, hmr];omega
       ·simp (disch := try exact qa0) only [push_cast, simprocAttr, b2, b3, b4, b5, b7, b8, b9, qe0, frz, AV.ids, idsL]
    ·obtain rfl : b = B.length := by omega
     rw [List.take_of_length_le (Nat.le_refl B.length)] at *;repeat' (first|refine nv ?_|(with_reducible first|refine gG ?_ ?_|refine ⟨fun h => ?_, fun h => ?_⟩ <;> try omega|refine andG ?_)|simp (disch := try exact qa0) only [push_cast, simprocAttr, b2, b3, b4, b5, b7, hml, et, ed, hAl, hBl, hidC])
theorem qcJ9 {I : Nat} {A B : List Row} (hA : ∀ j, j < A.length → ((edgesOf A).getD j []).length = I) (hB : ∀ j, j < B.length → ((edgesOf B).getD j []).length = I) : ∀ j, j < A.length + B.length → ((edgesOf (besL A B)).getD j []).length = I := by
 intro j hj;rw [xai9];rcases Nat.lt_or_ge j A.length with h|h
 ·rw [qI0 _ _ _ (by rw [vc0]; exact h)]; exact hA j h
 ·obtain ⟨k, rfl⟩ : ∃ k, j = A.length + k := ⟨j - A.length, by omega⟩;have := vE0 (edgesOf A) (edgesOf B) k (by rw [vc0]; omega);rw [vc0] at this;rw [this, qM0, List.length_map]; exact hB k (by omega)
theorem zdg9 {I : Nat} {A B : List Row} (hA : ∀ j, j < A.length → ((edgesOf A).getD j []).length = I) (hB : ∀ j, j < B.length → ((edgesOf B).getD j []).length = I)
  (tA : ∀ j i, j < A.length → i < I → (((edgesOf A).getD j []).getD i (0, 0)).1 < A.length) (tB : ∀ j i, j < B.length → i < I → (((edgesOf B).getD j []).getD i (0, 0)).1 < B.length) :
  ∀ j i, j < A.length + B.length → i < I → (((edgesOf (besL A B)).getD j []).getD i (0, 0)).1 < ((A.length + B.length : Nat) : Int) := by
 intro j i hj hi;rw [xai9];rcases Nat.lt_or_ge j A.length with h|h
 ·rw [qI0 _ _ _ (by rw [vc0]; exact h)];have := tA j i h hi;omega
 ·obtain ⟨k, rfl⟩ : ∃ k, j = A.length + k := ⟨j - A.length, by omega⟩;have h2 := vE0 (edgesOf A) (edgesOf B) k (by rw [vc0]; omega);rw [vc0] at h2;rw [h2, kck9 _ _ _ (by rw [hB k (by omega)]; exact hi)];have := tB k i (by omega) hi;split
  ·dsimp only; omega
  ·omega
set_option maxRecDepth 100000 in
theorem zcJ9 (I : Nat) (o o' : Int) (A B : List Row) (c c' : Option Nat) (hA1 : 1 ≤ A.length) (hB1 : 1 ≤ B.length) (hA : A.length ≤ 100) (hB : B.length ≤ 100) (hI : I ≤ 100) (hI1 : 1 ≤ I)
  (hwA : ∀ j, j < A.length → ((edgesOf A).getD j []).length = I) (hwB : ∀ j, j < B.length → ((edgesOf B).getD j []).length = I)
  (tA : ∀ j i, j < A.length → i < I → (((edgesOf A).getD j []).getD i (0, 0)).1 < A.length) (tB : ∀ j i, j < B.length → i < I → -1 ≤ (((edgesOf B).getD j []).getD i (0, 0)).1 ∧ (((edgesOf B).getD j []).getD i (0, 0)).1 < B.length)
  (hsame : ∀ k, markM I (xA0 (edgesOf A) (edgesOf B)) k 0 A.length = false) :
  PC Tryd.prog G0 23 [.agg [.int .i64 I, .int .i64 o, .sl 1 (xb0 A) c], .agg [.int .i64 I, .int .i64 o', .sl 1 (xb0 B) c']] (.tup [.sl 0 [] (some 0), .bool false]) := by
 have hbs := kcI9 I o o' A B c c' 1 (.inr rfl) (by omega) (by omega) hI hI1 hwB (fun j i hj hi => by have := tB j i hj hi; omega);have hmk := fun k hk => wcI9 I (A.length + B.length) (max o o') (besL A B) none k (vaR9 A B) (by omega) (qcJ9 hwA hwB) (zdg9 hwA hwB tA (fun j i hj hi => (tB j i hj hi).2)) (by omega) hI hk;have hbl : (xb0 (besL A B)).length = A.length + B.length := by rw [wa0, vaR9]
 have hAl := wa0 A;have hidA : ∀ p, idsE p (xb0 A) = true := fun p => ke0 _ _;have hidB : ∀ p, idsE p (xb0 B) = true := fun p => ke0 _ _;have hidC : ∀ p, idsE p (xb0 (besL A B)) = true := fun p => ke0 _ _;rw [← xai9] at hsame;generalize hN : A.length + B.length = N at *;generalize xb0 (besL A B) = RC at *;refine wf0 0 110 [.tmp 4, .tmp 5] Tryd.func23 rfl rfl rfl (by simp) ?_;intro s ⟨a0, a1, hz⟩;simp only [Nat.zero_add, Nat.reduceAdd] at a1;clear hz;repeat' (first|(first|refine nav ?_|(refine g0_ ?_; first|refine dN (p := [0, 0, 0, 1, 0, 0, 1, 1, 1, 0, 1, 0, 0, 0, 1, 1, 1, 1, 1, 1, 1]) [(59, 6), (60, 59), (62, 60), (63, 62), (65, 63), (66, 65), (67, 6), (68, 67), (70, 68), (71, 70), (73, 71), (74, 73)] [(13, none), (14, none), (13, some 13)] [(17, 18)] ?_|refine goD ?_))|(with_reducible first|refine gG ?_ ?_|refine ⟨fun h => ?_, fun h => ?_⟩ <;> try omega|refine andG ?_)|refine cp_ hbs ?_ (hi := by (simp [idsL, idsE, AV.ids, hidA, hidB, hidC]))|simp (disch := try exact qa0) only [push_cast, simprocAttr, a0, a1, hAl, hbl])
 refine go_loop rfl (fun mz s' H' => ∃ k : Nat, k ≤ N ∧ mz = N - k ∧ H' = [.row 3 30 [[.int .i64 I, .int .i64 o, .sl 1 (xb0 A) c]], .row 3 30 [[.int .i64 I, .int .i64 o', .sl 1 (xb0 B) c']], .row 3 30 [[.int .i64 I, .int .i64 (max o o'), .sl 1 RC none]]] ∧ s' 6 = .ptr 2 0 0 1 ∧ s' 7 = .int .i64 0 ∧ s' 8 = .int .i64 A.length ∧ s' 9 = .int .i64 k) (m := N) (by first|exact wb0|fail) (Weak.refl _ _) ⟨0, by omega, by omega, rfl, ?_⟩ ?_
 ·simp (disch := try exact qa0) only [push_cast, simprocAttr, a0, a1, hAl, hbl]
 ·rintro mz s' H' ⟨k, hk, rfl, rfl, b6, b7, b8, b9⟩;rcases Nat.lt_or_ge k N with hlt|hge
  ·have hc := hmk k (by omega);have g1 := waR9 N (markM I (edgesOf (besL A B)) k) (some N) 0 (by omega);have g2 := zad9 N (markM I (edgesOf (besL A B)) k 0) A.length (by omega);have l1 := xaR9 N (markM I (edgesOf (besL A B)) k) (some N);have l2 := qad9 N (markM I (edgesOf (besL A B)) k 0);rw [hsame k] at g2;generalize matA N (markM I (edgesOf (besL A B)) k) (some N) = MA at *;generalize vq0 N (markM I (edgesOf (besL A B)) k 0) = BR at *;repeat' (first|(first|refine nav ?_|(refine g0_ ?_; first|refine dN (p := [0, 0, 0, 1, 0, 0, 1, 1, 1, 0, 1, 0, 0, 0, 1, 1, 1, 1, 1, 1, 1]) [(59, 6), (60, 59), (62, 60), (63, 62), (65, 63), (66, 65), (67, 6), (68, 67), (70, 68), (71, 70), (73, 71), (74, 73)] [(13, none), (14, none), (13, some 13)] [(17, 18)] ?_|refine goD ?_))|(with_reducible first|refine gG ?_ ?_|refine ⟨fun h => ?_, fun h => ?_⟩ <;> try omega|refine andG ?_)|refine cp_ hc ?_ (hi := by (simp [idsL, idsE, AV.ids, hidA, hidB, hidC]))|simp (disch := try exact qa0) only [push_cast, simprocAttr, b6, b7, b8, b9, hbl, g1, g2, l1, l2])
   refine qb0 (N - (k + 1)) (by omega) (by first|exact wb0|fail) ⟨k + 1, by omega, rfl, rfl, ?_⟩;simp (disch := try exact qa0) only [push_cast, simprocAttr, b6, b7, b8, b9, hbl, g1, g2, l1, l2]
  ·obtain rfl : N = k := by omega
   repeat' (first|(first|refine nav ?_|(refine g0_ ?_; first|refine dN (p := [0, 0, 0, 1, 0, 0, 1, 1, 1, 0, 1, 0, 0, 0, 1, 1, 1, 1, 1, 1, 1]) [(59, 6), (60, 59), (62, 60), (63, 62), (65, 63), (66, 65), (67, 6), (68, 67), (70, 68), (71, 70), (73, 71), (74, 73)] [(13, none), (14, none), (13, some 13)] [(17, 18)] ?_|refine goD ?_))|(with_reducible first|refine gG ?_ ?_|refine ⟨fun h => ?_, fun h => ?_⟩ <;> try omega|refine andG ?_)|(refine ⟨AV.top, ?_⟩; refine kY0 ?_)|simp (disch := try exact qa0) only [push_cast, simprocAttr, b6, b7, b8, b9, hbl, Nat.lt_irrefl])
end Go.Proofs
