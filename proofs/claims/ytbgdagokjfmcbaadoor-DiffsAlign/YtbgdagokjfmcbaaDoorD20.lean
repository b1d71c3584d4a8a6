import Derived.Test.YtbgdagokjfmcbaaDoorD8
import Derived.Test.YtbgdagokjfmcbaaDoorD13
import Derived.Test.YtbgdagokjfmcbaaDoorD15
import Derived.Test.YtbgdagokjfmcbaaDoorD16
import Derived.Test.YtbgdagokjfmcbaaDoorV50
namespace Go.Proofs
open Go Go.V
set_option linter.unusedVariables false
set_option linter.unusedSimpArgs false
set_option maxHeartbeats 0
abbrev Wd := List Int × Option Nat
def wD : Wd := ([], none)
def wsA (l : List Wd) : List (List AV) := l.map fun w => [.sl 1 (ints w.1) w.2]
theorem xah9 (l : List Wd) : (wsA l).length = l.length := by simp [wsA]
theorem wG0 (l : List Wd) (k : Nat) (h : k < l.length) : (wsA l).getD k [] = [.sl 1 (ints (l.getD k wD).1) (l.getD k wD).2] := by simp [wsA, h]
theorem kO0 (p : Nat → Bool) (l : List Wd) : idsE p (wsA l) = true := zn0 _ _ fun x => by simp [idsL, AV.ids]
theorem zdb9 (p : Nat → Bool) (l : List Wd) : ((wsA l).all fun e => e.all fun x => AV.ids p x) = true := xo0 (kO0 p l)
attribute [simp] kO0
attribute [push_cast] zdb9 xah9
theorem xdb9 (l : List Wd) (k : Nat) (h : k < l.length) : l.drop k = l.getD k wD :: l.drop (k + 1) := by
 rw [List.drop_eq_getElem_cons h]; simp [h]
def zbK9 (l : List Wd) : Prop := ∀ k, k < l.length → (l.getD k wD).1.length ≤ 1000000
def errW (n : Int) : List Wd → Int
 | [] => 0
 | w :: ws => if wB0 w.1 n ≠ 0 then wB0 w.1 n else errW n ws
def kS0 (l : List Wd) (n : Int) : Int := if 16 < n ∨ 4096 < l.length then 3 else if n < 1 then 1 else errW n l
set_option maxRecDepth 100000 in
theorem wdb9 (l : List Wd) (z : Nat) (c : Option Nat) (n : Int) (hz : l = [] ∨ z = 1) (hl : l.length ≤ 1000000) (hs : zbK9 l) : PC Tryd.prog G0 83 [.sl z (wsA l) c, .int .i64 n] (.int .i64 (kS0 l n)) := by
 unfold kS0;refine wf0 0 30 [.tmp 4] Tryd.func83 rfl rfl rfl (by simp) ?_;intro s ⟨a0, a1, hz⟩;simp only [Nat.zero_add, Nat.reduceAdd] at a1;clear hz;repeat' (first|refine nv ?_|(with_reducible first|refine gG ?_ ?_|refine ⟨fun h => ?_, fun h => ?_⟩ <;> try omega|refine andG ?_)|simp (disch := try exact qa0) only [push_cast, simprocAttr, a0, a1])
 ·rw [if_pos (by omega)]
 ·rename_i h0;rw [if_neg (by omega), if_pos h]
 ·rename_i h0;rw [if_neg (by omega), if_neg (by omega)];refine go_loop rfl (fun mz s' H' => ∃ k : Nat, k ≤ l.length ∧ mz = l.length - k ∧ H' = [] ∧ s' 1 = .int .i64 n ∧ s' 17 = .sl z (wsA l) c ∧ s' 18 = .int .i64 l.length ∧ s' 19 = .int .i64 k ∧ errW n l = errW n (l.drop k)) (m := l.length) (by first|exact wb0|fail) (Weak.refl _ _) ⟨0, by omega, by omega, rfl, ?_⟩ ?_
  ·simp (disch := try exact qa0) only [push_cast, simprocAttr, a0, a1]
  ·rintro mz s' H' ⟨k, hk, rfl, rfl, b1, b17, b18, b19, ik⟩;rcases Nat.lt_or_ge k l.length with hlt|hge
   ·obtain rfl := hz.resolve_left (by rintro rfl; simp at hlt);have e1 := wG0 l k hlt;have hC := qdq9 (l.getD k wD).1 (l.getD k wD).2 n (hs k hlt);rw [xdb9 l k hlt, errW] at ik;generalize (l.getD k wD).1 = w at *;generalize (l.getD k wD).2 = cw at *;generalize wB0 w n = e at *;repeat' (first|refine nv ?_|(with_reducible first|refine gG ?_ ?_|refine ⟨fun h => ?_, fun h => ?_⟩ <;> try omega|refine andG ?_)|refine cp_ hC ?_|simp (disch := try exact qa0) only [push_cast, simprocAttr, b1, b17, b18, b19, e1])
    ·rw [ik, if_pos h]
    ·refine qb0 (l.length - (k + 1)) (by omega) (by first|exact wb0|fail) ⟨k + 1, by omega, rfl, rfl, ?_⟩;simp (disch := try exact qa0) only [push_cast, simprocAttr, b1, b17, b18, b19, e1];rw [ik, if_neg (by omega)]
   ·obtain rfl : k = l.length := by omega
    repeat' (first|refine nv ?_|(with_reducible first|refine gG ?_ ?_|refine ⟨fun h => ?_, fun h => ?_⟩ <;> try omega|refine andG ?_)|refine cp_ hC ?_|simp (disch := try exact qa0) only [push_cast, simprocAttr, b1, b17, b18, b19])
    rw [ik]; simp [errW]
def vav9 (l : List Wd) : Bool := (List.range (l.length - 1)).all fun i => decide (cmpM (l.getD i wD).1 (l.getD (i + 1) wD).1 < 0)
theorem vcd9 {l : List Wd} {k : Nat} (hk : k + 1 < l.length) (h : ¬ cmpM (l.getD k wD).1 (l.getD (k + 1) wD).1 < 0) : vav9 l = false := by
 rw [vav9, List.all_eq_false];exact ⟨k, List.mem_range.2 (by omega), by simpa using h⟩
theorem xbK9 {l : List Wd} (h : ∀ k, k + 1 < l.length → cmpM (l.getD k wD).1 (l.getD (k + 1) wD).1 < 0) : vav9 l = true := by
 rw [vav9, List.all_eq_true];exact fun k hk => by simpa using h k (by have := List.mem_range.1 hk; omega)
set_option maxRecDepth 100000 in
theorem vdb9 (l : List Wd) (z : Nat) (c : Option Nat) (hz : l = [] ∨ z = 1) (hl : l.length ≤ 1000000) (hs : zbK9 l) : PC Tryd.prog G0 84 [.sl z (wsA l) c] (.bool (vav9 l)) := by
 refine wf0 0 21 [.tmp 2] Tryd.func84 rfl rfl rfl (by simp) ?_;intro s ⟨a0, hz⟩;clear hz;repeat' (first|refine nv ?_|(with_reducible first|refine gG ?_ ?_|refine ⟨fun h => ?_, fun h => ?_⟩ <;> try omega|refine andG ?_)|simp (disch := try exact qa0) only [push_cast, simprocAttr, a0])
 refine go_loop rfl (fun mz s' H' => ∃ k : Nat, k ≤ l.length ∧ mz = l.length - k ∧ H' = [] ∧ s' 0 = .sl z (wsA l) c ∧ s' 3 = .int .i64 ((k : Int) + 1) ∧ ∀ j, j + 1 < l.length → j < k → cmpM (l.getD j wD).1 (l.getD (j + 1) wD).1 < 0) (m := l.length) (by first|exact wb0|fail) (Weak.refl _ _) ⟨0, by omega, by omega, rfl, ?_⟩ ?_
 ·simp (disch := try exact qa0) only [push_cast, simprocAttr, a0];exact fun j hj h => by omega
 ·rintro mz s' H' ⟨k, hk, rfl, rfl, b0, b3, ik⟩;have hk2 : ((k : Int) + 1).toNat = k + 1 := by omega
  rcases Nat.lt_or_ge (k + 1) l.length with hlt|hge
  ·obtain rfl := hz.resolve_left (by rintro rfl; simp at hlt);have e1 := wG0 l k (by omega);have e2 := wG0 l (k + 1) hlt;have hC := zcc9 (l.getD k wD).1 (l.getD (k + 1) wD).1 (l.getD k wD).2 (l.getD (k + 1) wD).2 (hs k (by omega)) (hs (k + 1) hlt);have hno := vcd9 hlt;have hsn : cmpM (l.getD k wD).1 (l.getD (k + 1) wD).1 < 0 → ∀ j, j + 1 < l.length → j < k + 1 → cmpM (l.getD j wD).1 (l.getD (j + 1) wD).1 < 0 := fun h j h1 h2 => by
    rcases Nat.lt_or_ge j k with q|q
    ·exact ik j h1 q
    ·obtain rfl : j = k := by omega
     exact h
   generalize cmpM (l.getD k wD).1 (l.getD (k + 1) wD).1 = e at *;have hk3 : ((k : Int) + 1 - 1) = k := by omega
   have hk4 : (((k + 1 : Nat) : Int)) = (k : Int) + 1 := by omega
   generalize (l.getD k wD).1 = w at *;generalize (l.getD k wD).2 = cw at *;generalize (l.getD (k + 1) wD).1 = w2 at *;generalize (l.getD (k + 1) wD).2 = cw2 at *;repeat' (first|refine nv ?_|(with_reducible first|refine gG ?_ ?_|refine ⟨fun h => ?_, fun h => ?_⟩ <;> try omega|refine andG ?_)|refine cp_ hC ?_|simp (disch := try exact qa0) only [push_cast, simprocAttr, b0, b3, e1, e2, hk2, hk3, Int.toNat_natCast])
   ·rw [hno (by omega)]
   ·refine qb0 (l.length - (k + 1)) (by omega) (by first|exact wb0|fail) ⟨k + 1, by omega, rfl, rfl, ?_⟩;simp (disch := try exact qa0) only [push_cast, simprocAttr, b0, b3, e1, e2, hk2, hk3, Int.toNat_natCast];exact hsn (by omega)
  ·have e0 : k = l.length ∨ k + 1 = l.length := by omega
   repeat' (first|refine nv ?_|(with_reducible first|refine gG ?_ ?_|refine ⟨fun h => ?_, fun h => ?_⟩ <;> try omega|refine andG ?_)|refine cp_ hC ?_|simp (disch := try exact qa0) only [push_cast, simprocAttr, b0, b3])
   rw [xbK9 fun j hj => ik j hj (by omega)]
def sumW (l : List Wd) : Nat := (l.map fun w => w.1.length).sum
theorem kcd9 (l : List Wd) (k : Nat) (h : k < l.length) : sumW (l.take (k + 1)) = sumW (l.take k) + (l.getD k wD).1.length := by
 rw [sumW, wn0 _ l wD k h, List.sum_append]; simp [sumW]
theorem kdb9 (l : List Wd) (k : Nat) : sumW (l.take k) ≤ sumW l := by
 have e : l = l.take k ++ l.drop k := (List.take_append_drop k l).symm;have : sumW (l.take k ++ l.drop k) = sumW (l.take k) + sumW (l.drop k) := by simp only [sumW, List.map_append, List.sum_append]
 rw [← e] at this;omega
set_option maxRecDepth 100000 in
theorem qdc9 (l : List Wd) (z : Nat) (c : Option Nat) (hz : l = [] ∨ z = 1) (hl : l.length ≤ 1000000) (hs : sumW l ≤ 1000000000) : PC Tryd.prog G0 85 [.sl z (wsA l) c] (.int .i64 (sumW l)) := by
 refine wf0 0 17 [.tmp 2] Tryd.func85 rfl rfl rfl (by simp) ?_;intro s ⟨a0, hz⟩;clear hz;repeat' (first|refine nv ?_|(with_reducible first|refine gG ?_ ?_|refine ⟨fun h => ?_, fun h => ?_⟩ <;> try omega|refine andG ?_)|simp (disch := try exact qa0) only [push_cast, simprocAttr, a0])
 refine go_loop rfl (fun mz s' H' => ∃ k : Nat, k ≤ l.length ∧ mz = l.length - k ∧ H' = [] ∧ s' 2 = .int .i64 (sumW (l.take k)) ∧ s' 5 = .sl z (wsA l) c ∧ s' 6 = .int .i64 l.length ∧ s' 7 = .int .i64 k) (m := l.length) (by first|exact wb0|fail) (Weak.refl _ _) ⟨0, by omega, by omega, rfl, ?_⟩ ?_
 ·simp (disch := try exact qa0) only [push_cast, simprocAttr, a0];rfl
 ·rintro mz s' H' ⟨k, hk, rfl, rfl, b2, b5, b6, b7⟩;have h1 := kdb9 l (k + 1);rcases Nat.lt_or_ge k l.length with hlt|hge
  ·obtain rfl := hz.resolve_left (by rintro rfl; simp at hlt);have e1 := wG0 l k hlt;have e2 := kcd9 l k hlt;generalize (l.getD k wD).1 = w at *;generalize (l.getD k wD).2 = cw at *;repeat' (first|refine nv ?_|(with_reducible first|refine gG ?_ ?_|refine ⟨fun h => ?_, fun h => ?_⟩ <;> try omega|refine andG ?_)|simp (disch := try exact qa0) only [push_cast, simprocAttr, b2, b5, b6, b7, e1])
   refine qb0 (l.length - (k + 1)) (by omega) (by first|exact wb0|fail) ⟨k + 1, by omega, rfl, rfl, ?_⟩;simp (disch := try exact qa0) only [push_cast, simprocAttr, b2, b5, b6, b7, e1];congr 1
   omega
  ·obtain rfl : k = l.length := by omega
   repeat' (first|refine nv ?_|(with_reducible first|refine gG ?_ ?_|refine ⟨fun h => ?_, fun h => ?_⟩ <;> try omega|refine andG ?_)|simp (disch := try exact qa0) only [push_cast, simprocAttr, b2, b5, b6, b7])
def wV0 (l : List Wd) (n : Int) : Int := if kS0 l n ≠ 0 then kS0 l n else if vav9 l = false then 1 else if 65536 < sumW l then 3 else 0
theorem kav9 {n : Int} : ∀ {l : List Wd}, errW n l = 0 → ∀ w ∈ l, wB0 w.1 n = 0
 | [], _, w, hw => by cases hw
 | v :: l, h, w, hw => by
  rw [errW] at h;by_cases h1 : wB0 v.1 n ≠ 0
  ·rw [if_pos h1] at h; exact absurd h h1
  ·rw [if_neg h1] at h;rcases List.mem_cons.1 hw with rfl|q
   ·omega
   ·exact kav9 h w q
theorem zaG9 {m : Nat} : ∀ {l : List Wd}, (∀ w ∈ l, w.1.length ≤ m) → sumW l ≤ l.length * m
 | [], _ => by simp [sumW]
 | w :: l, h => by
  have h1 := zaG9 fun v hv => h v (List.mem_cons_of_mem _ hv);have h2 := h w (List.mem_cons_self ..);have : sumW (w :: l) = w.1.length + sumW l := by simp [sumW]
  rw [this, List.length_cons, Nat.succ_mul];omega
theorem wbK9 {w : List Int} {n : Int} (h : wB0 w n = 0) : w.length ≤ 256 := by
 rw [wB0] at h;split at h <;> omega
theorem qce9 {l : List Wd} {n : Int} (h : kS0 l n = 0) : sumW l ≤ 4096 * 256 := by
 rw [kS0] at h;split at h
 ·omega
 ·split at h
  ·omega
  ·have := zaG9 (m := 256) fun w hw => wbK9 (kav9 h w hw);exact Nat.le_trans this (Nat.mul_le_mul_right _ (by omega))
set_option maxRecDepth 100000 in
theorem zcC9 (l : List Wd) (z : Nat) (c : Option Nat) (n : Int) (hz : l = [] ∨ z = 1) (hl : l.length ≤ 1000000) (hs : zbK9 l) : PC Tryd.prog G0 59 [.sl z (wsA l) c, .int .i64 n] (.int .i64 (wV0 l n)) := by
 have h1 := wdb9 l z c n hz hl hs;have h2 := vdb9 l z c hz hl hs;have h3 := fun h => qdc9 l z c hz hl h;have h4 := @qce9 l n;unfold wV0;generalize kS0 l n = e at *;by_cases he : e ≠ 0
 ·rw [if_pos he];refine wf0 0 18 [.tmp 4] Tryd.func59 rfl rfl rfl (by simp) ?_;intro s ⟨a0, a1, hz⟩;simp only [Nat.zero_add, Nat.reduceAdd] at a1;clear hz;repeat' (first|refine nv ?_|(with_reducible first|refine gG ?_ ?_|refine ⟨fun h => ?_, fun h => ?_⟩ <;> try omega|refine andG ?_)|refine cp_ h1 ?_|simp (disch := try exact qa0) only [push_cast, simprocAttr, a0, a1])
 ·rw [if_neg he];obtain rfl : e = 0 := by omega
  have h3 := h3 (by have := h4 rfl; omega);cases ha : vav9 l with
  | false =>
   rw [ha] at h2;refine wf0 0 18 [.tmp 4] Tryd.func59 rfl rfl rfl (by simp) ?_;intro s ⟨a0, a1, hz⟩;simp only [Nat.zero_add, Nat.reduceAdd] at a1;clear hz;repeat' (first|refine nv ?_|(with_reducible first|refine gG ?_ ?_|refine ⟨fun h => ?_, fun h => ?_⟩ <;> try omega|refine andG ?_)|refine cp_ h1 ?_|refine cp_ h2 ?_|simp (disch := try exact qa0) only [push_cast, simprocAttr, a0, a1])
  | true =>
   rw [ha] at h2;refine wf0 0 18 [.tmp 4] Tryd.func59 rfl rfl rfl (by simp) ?_;intro s ⟨a0, a1, hz⟩;simp only [Nat.zero_add, Nat.reduceAdd] at a1;clear hz;repeat' (first|refine nv ?_|(with_reducible first|refine gG ?_ ?_|refine ⟨fun h => ?_, fun h => ?_⟩ <;> try omega|refine andG ?_)|refine cp_ h1 ?_|refine cp_ h2 ?_|refine cp_ h3 ?_|simp (disch := try exact qa0) only [push_cast, simprocAttr, a0, a1])
   ·rw [if_pos (by omega)]
   ·rw [if_neg (by omega)]
set_option maxRecDepth 100000 in
theorem vbK9 (b n h : Nat) (t : TypeId) (es : List (List AV)) (c : Option Nat) (H : List Blk) (hb : H[b]? = some (.row 1 t es)) (hh : h = es.length) : qg0 Tryd.prog G0 62 [.own b n h c] H (.own b n h (some n)) H := by
 subst hh;refine vQ0 9 [.tmp 2] Tryd.func62 rfl rfl rfl (by simp) ?_;intro s ⟨a0, hz⟩;clear hz;repeat' (first|refine nv ?_|(with_reducible first|refine gG ?_ ?_|refine ⟨fun h => ?_, fun h => ?_⟩ <;> try omega|refine andG ?_)|simp (disch := try exact qa0) only [push_cast, simprocAttr, a0, hb])
def vdD9 : List Wd → List Wd → Bool
 | [], [] => true
 | v :: a, w :: b => decide (cmpM v.1 w.1 = 0) && vdD9 a b
 | _, _ => false
def mapK (ks : List (Int × Int)) : List (AV × AV) := ks.map fun k => (.agg [.int .i64 k.1, .int .i64 k.2], .bool true)
def insK (ks : List (Int × Int)) (k : Int × Int) : List (Int × Int) := if (ks.any fun x => decide (x = k)) = true then ks else ks ++ [k]
theorem qaw9 (a b c d : Int) : xQ0 (.agg [.int .i64 a, .int .i64 b]) (.agg [.int .i64 c, .int .i64 d]) = (decide (a = c) && decide (b = d)) := by
 simp only [xQ0, wbN9, xbN9, Bool.and_true];rw [show (IntKind.i64 == IntKind.i64) = true from rfl, Bool.true_and, Bool.true_and];rw [Bool.eq_iff_iff]; simp
theorem qbc9 (a b : Int) : ∀ ks, updA (mapK ks) (.agg [.int .i64 a, .int .i64 b]) (.bool true) = mapK (insK ks (a, b))
 | [] => rfl
 | (c, d) :: ks => by
  have ih := qbc9 a b ks;simp only [mapK, List.map_cons, updA, qaw9] at ih ⊢;by_cases h : a = c ∧ b = d
  ·obtain ⟨rfl, rfl⟩ := h;simp [insK]
  ·have h1 : ¬ (c = a ∧ d = b) := fun q => h ⟨q.1.symm, q.2.symm⟩;have h2 : (decide (a = c) && decide (b = d)) = false := by simpa using h
   rw [h2, if_neg (by simp), ih];simp only [insK, List.any_cons, Prod.mk.injEq, decide_eq_false h1, Bool.false_or];split <;> simp
theorem xaG9 (z : AV) (a b : Int) : ∀ ks, xao9 z (mapK ks) (.agg [.int .i64 a, .int .i64 b]) = if (ks.any fun x => decide (x = (a, b))) = true then .bool true else z
 | [] => rfl
 | (c, d) :: ks => by
  have ih := xaG9 z a b ks;simp only [xao9, mapK, List.map_cons, List.find?_cons, qaw9] at ih ⊢;by_cases h : a = c ∧ b = d
  ·obtain ⟨rfl, rfl⟩ := h;simp
  ·have h1 : ¬ (c = a ∧ d = b) := fun q => h ⟨q.1.symm, q.2.symm⟩;have h2 : (decide (a = c) && decide (b = d)) = false := by simpa using h
   rw [h2];simp only [List.any_cons, Prod.mk.injEq, decide_eq_false h1, Bool.false_or];exact ih
theorem qdr9 : eqTy Tryd.prog 8 33 = true := by kernel_rfl
theorem zdr9 (a b : Int) : keyA Tryd.prog 8 33 (.agg [.int .i64 a, .int .i64 b]) = true := by
 kernel_rfl
theorem zdc9 (ks : List (Int × Int)) (a b : Int) : vaS9 Tryd.prog 33 (mapK ks) (.agg [.int .i64 a, .int .i64 b]) = true := by
 simp only [vaS9, qdr9, zdr9, Bool.true_and];rw [mapK, List.all_map, List.all_eq_true];intro x _;simp [eq33, qaw9]
theorem xdr9 : zbC9 Tryd.prog 4 = .bool false := by kernel_rfl
theorem vab9 (p : Nat → Bool) (ks : List (Int × Int)) : ((mapK ks).all fun x => AV.ids p x.1 && AV.ids p x.2) = true := by
 rw [mapK, List.all_map, List.all_eq_true];intro x _;simp [AV.ids, idsL]
def xaO9 (ed : List Ed) : Nat → List (Int × Int)
 | 0 => []
 | n + 1 => insK (xaO9 ed n) ((ed.getD n eD).s, (ed.getD n eD).i)
theorem xcC9 (ks : List (Int × Int)) (k : Int × Int) (f : Int × Int → Bool) : (insK ks k).any f = (ks.any f || f k) := by
 unfold insK;split
 ·rename_i h;rw [Bool.eq_iff_iff, Bool.or_eq_true];refine ⟨.inl, fun q => q.elim id fun q => ?_⟩;obtain ⟨x, hx, hxk⟩ := List.any_eq_true.1 h;obtain rfl : x = k := by simpa using hxk
  exact List.any_eq_true.2 ⟨x, hx, q⟩
 ·simp [List.any_append]
theorem zbc9 (ed : List Ed) (a b : Int) : ∀ n, n ≤ ed.length → ((xaO9 ed n).any fun x => decide (x = (a, b))) = (ed.take n).any (isAt a b)
 | 0, _ => by simp [xaO9]
 | n + 1, h => by
  rw [xaO9, xcC9, zbc9 ed a b n (by omega), List.take_succ_eq_append_getElem (by omega), List.any_append];have : ed.getD n eD = ed[n] := by simp [show n < ed.length by omega]
  rw [this];simp [isAt, Prod.ext_iff]
def zaw9 (la : List Row) (ed : List Ed) : Int → List Int → Bool
 | _, [] => false
 | q, i :: w => if ed.any (isAt q i) = true then true else if toAt la q i = -1 then false else zaw9 la ed (toAt la q i) w
def waG9 (i o : Int) (la : List Row) (p : Pt) : Int := if we0 i o la ≠ 0 then we0 i o la else if xj0 p ≠ 0 then xj0 p else wcZ9 i o la.length p
def affM (la : List Row) (ed : List Ed) (l : List Wd) : List Wd := (l.filter fun w => zaw9 la ed 0 w.1).map fun w => (w.1, some w.1.length)
theorem zce9 (la : List Row) (ed : List Ed) (l : List Wd) (k : Nat) (h : k < l.length) : affM la ed (l.take (k + 1)) = affM la ed (l.take k) ++ if zaw9 la ed 0 (l.getD k wD).1 = true then [((l.getD k wD).1, some (l.getD k wD).1.length)] else [] := by
 rw [affM, List.take_succ_eq_append_getElem h, List.filter_append, List.map_append, affM];congr 1
 have : l.getD k wD = l[k] := by simp [h]
 rw [this];simp only [List.filter_cons, List.filter_nil];split <;> rfl
theorem qbp9 (la : List Row) (ed : List Ed) (l : List Wd) : (affM la ed l).length ≤ l.length := by
 simp only [affM, List.length_map]; exact List.length_filter_le _ _
def affR (i o : Int) (la : List Row) (p : Pt) (l : List Wd) : List Wd × Int :=
 if waG9 i o la p ≠ 0 then ([], waG9 i o la p) else if wV0 l i ≠ 0 then ([], wV0 l i) else (affM la p.ed l, 0)
theorem kbK9 {w : List Int} {n : Int} (h : wB0 w n = 0) : ∀ x ∈ w, 0 ≤ x ∧ x < n := by
 rw [wB0] at h;split at h
 ·omega
 ·split at h
  ·omega
  ·split at h
   ·omega
   ·rename_i h3;intro x hx;have : badI n x = false := by
     cases hb : badI n x with
     | false => rfl
     | true => exact absurd (List.any_eq_true.2 ⟨x, hx, hb⟩) h3
    simp [badI] at this;omega
theorem zbp9 {l : List Wd} {n : Int} (h : kS0 l n = 0) : ∀ w ∈ l, wB0 w.1 n = 0 := by
 unfold kS0 at h;split at h
 ·omega
 ·split at h
  ·omega
  ·exact kav9 h
def affH (i o : Int) (la : List Row) (c : Option Nat) (p : Pt) (z : Nat) (d : Option Nat) (ks : List (Int × Int)) : List Blk := [.row 3 30 [[.int .i64 i, .int .i64 o, .sl 1 (xb0 la) c]], .row 6 36 [[.int .i64 p.inp, .int .i64 p.o0, .int .i64 p.o1, .int .i64 p.s0, .int .i64 p.s1, .sl z (edsA p.ed) d]], .ob (.map 33 4 (mapK ks))]
theorem xce9 (xs : List Int) (k : Nat) (h : k < xs.length) : xs.drop k = xs.getD k 0 :: xs.drop (k + 1) := by
 rw [List.drop_eq_getElem_cons h]; simp [h]
attribute [push_cast] vab9 zdc9 xdr9 qbc9 xaG9
set_option maxRecDepth 100000 in
theorem qbL9 (i o : Int) (la : List Row) (c : Option Nat) (p : Pt) (z : Nat) (d : Option Nat) (l : List Wd) (zl : Nat) (cl : Option Nat) (hll : la.length ≤ 1000000) (hr : ∀ j, j < la.length → (la.getD j ([], none)).1.length ≤ 1000000) (hz : p.ed = [] ∨ z = 6) (hl : p.ed.length ≤ 1000000)
  (hzl : l = [] ∨ zl = 1) (hlw : l.length ≤ 1000000) (hs : zbK9 l) :
  PC Tryd.prog G0 28 [mA i o la c, pA p z d, .sl zl (wsA l) cl] (.tup [.sl 1 (wsA (affR i o la p l).1) (some (affR i o la p l).1.length), .int .i64 (affR i o la p l).2]) := by
 have h1 := wdD9 i o la 1 c p z d (.inr rfl) hll hr hz hl;have h2 := zcC9 l zl cl i hzl hlw hs
 change PC Tryd.prog G0 58 _ (.int .i64 (waG9 i o la p)) at h1
 have hm0 : waG9 i o la p = 0 → we0 i o la = 0 := fun h => by unfold waG9 at h; split at h <;> omega
 have ht0 : wV0 l i = 0 → kS0 l i = 0 := fun h => by unfold wV0 at h; split at h <;> omega
 unfold affR mA pA at *;generalize waG9 i o la p = e1 at *;generalize wV0 l i = e2 at *;by_cases q1 : e1 ≠ 0
 ·rw [if_pos q1];refine wf0 1 88 [.tmp 6, .tmp 7] Tryd.func28 rfl rfl rfl (by simp) ?_;intro s ⟨a0, a1, a2, hz⟩;simp only [Nat.zero_add, Nat.reduceAdd] at a1 a2;clear hz;repeat' (first|refine nv ?_|(with_reducible first|refine gG ?_ ?_|refine ⟨fun h => ?_, fun h => ?_⟩ <;> try omega|refine andG ?_)|refine cp_ h1 ?_|simp (disch := try exact qa0) only [push_cast, simprocAttr, a0, a1, a2])
  simp [wsA]
 ·rw [if_neg q1];obtain rfl : e1 = 0 := by omega
  by_cases q2 : e2 ≠ 0
  ·rw [if_pos q2];refine wf0 1 88 [.tmp 6, .tmp 7] Tryd.func28 rfl rfl rfl (by simp) ?_;intro s ⟨a0, a1, a2, hz⟩;simp only [Nat.zero_add, Nat.reduceAdd] at a1 a2;clear hz;repeat' (first|refine nv ?_|(with_reducible first|refine gG ?_ ?_|refine ⟨fun h => ?_, fun h => ?_⟩ <;> try omega|refine andG ?_)|refine cp_ h1 ?_|refine cp_ h2 ?_|simp (disch := try exact qa0) only [push_cast, simprocAttr, a0, a1, a2])
   simp [wsA]
  ·rw [if_neg q2];obtain rfl : e2 = 0 := by omega
   obtain ⟨m1, m2, m3, m4, m5⟩ := xe0 (hm0 rfl);have hlo := ht0 rfl;have hsym := zbp9 hlo;have hI : ∀ s, s < la.length → (la.getD s ([], none)).1.length = i.toNat := fun s hs => by have := m4 s hs; omega
   have hLd := kbJ9 hI m5;refine wf0 1 88 [.tmp 6, .tmp 7] Tryd.func28 rfl rfl rfl (by simp) ?_;intro s ⟨a0, a1, a2, hz⟩;simp only [Nat.zero_add, Nat.reduceAdd] at a1 a2;clear hz;repeat' (first|refine nv ?_|(with_reducible first|refine gG ?_ ?_|refine ⟨fun h => ?_, fun h => ?_⟩ <;> try omega|refine andG ?_)|refine cp_ h1 ?_|refine cp_ h2 ?_|simp (disch := try exact qa0) only [push_cast, simprocAttr, a0, a1, a2])
   refine go_loop rfl (fun mz s' H' => ∃ k : Nat, k ≤ p.ed.length ∧ mz = p.ed.length - k ∧ H' = affH i o la c p z d (xaO9 p.ed k) ∧ s' 2 = .sl zl (wsA l) cl ∧ s' 3 = .ptr 0 0 0 1 ∧ s' 10 = .mp 2 ∧ s' 37 = .sl z (edsA p.ed) d ∧ s' 38 = .int .i64 p.ed.length ∧ s' 39 = .int .i64 k) (m := p.ed.length) (by first|exact wb0|fail) (Weak.refl _ _) ⟨0, by omega, by omega, (by first|rfl|simp [xaO9]), ?_⟩ ?_
   ·simp (disch := try exact qa0) only [push_cast, simprocAttr, a0, a1, a2]
   ·rintro mz s' H' ⟨k, hk, rfl, rfl, b2, b3, b10, b37, b38, b39⟩;unfold affH;rcases Nat.lt_or_ge k p.ed.length with hlt|hge
    ·obtain rfl := hz.resolve_left (by intro h; rw [h] at hlt; simp at hlt);have e1 := qK0 p.ed k hlt
     change _ = xA (p.ed.getD k eD) at e1
     have e2 : xaO9 p.ed (k + 1) = insK (xaO9 p.ed k) ((p.ed.getD k eD).s, (p.ed.getD k eD).i) := rfl;generalize p.ed.getD k eD = x at *;simp only [xA] at e1;repeat' (first|refine nv ?_|(with_reducible first|refine gG ?_ ?_|refine ⟨fun h => ?_, fun h => ?_⟩ <;> try omega|refine andG ?_)|refine cp_ h1 ?_|refine cp_ h2 ?_|simp (disch := try exact qa0) only [push_cast, simprocAttr, b2, b3, b10, b37, b38, b39, e1])
     refine va0 (p.ed.length - (k + 1)) 3 (by omega) (by first|exact wb0|fail) (by omega) (by simp) (by simp [Blk.below, idsE, idsL, AV.ids, vab9]) ⟨k + 1, by omega, rfl, by simp [e2], ?_⟩;simp (disch := try exact qa0) only [push_cast, simprocAttr, b2, b3, b10, b37, b38, b39, qe0, AV.ids, idsL, kO0, wh0]
    ·obtain rfl : k = p.ed.length := by omega
     repeat' (first|refine nv ?_|(with_reducible first|refine gG ?_ ?_|refine ⟨fun h => ?_, fun h => ?_⟩ <;> try omega|refine andG ?_)|refine cp_ h1 ?_|refine cp_ h2 ?_|simp (disch := try exact qa0) only [push_cast, simprocAttr, b2, b3, b10, b37, b38, b39])
     have eany := fun a b => zbc9 p.ed a b p.ed.length (Nat.le_refl _);simp only [List.take_length] at eany;generalize xaO9 p.ed p.ed.length = ks at *;refine zo0 (by first|exact wb0|fail) (kv0 (t := 13) (sz := 1) (ty := 50) rfl) ?_;refine go_loop rfl (fun mz s' H' => ∃ u : Nat, u ≤ l.length ∧ mz = l.length - u ∧ H' = affH i o la c p z d ks ++ [.row 1 50 (wsA (affM la p.ed (l.take u)))] ∧ s' 3 = .ptr 0 0 0 1 ∧ s' 10 = .mp 2 ∧ s' 13 = .own 3 (affM la p.ed (l.take u)).length (affM la p.ed (l.take u)).length none ∧ s' 50 = .sl zl (wsA l) cl ∧ s' 51 = .int .i64 l.length ∧ s' 52 = .int .i64 u) (m := l.length) (by first|exact wb0|fail) (Weak.refl _ _) ⟨0, by omega, by omega, (by first|rfl|simp [affM, wsA, List.take_zero, List.filter_nil, List.map_nil]), ?_⟩ ?_
     ·simp (disch := try exact qa0) only [push_cast, simprocAttr, b2, b3, b10, b37, b38, b39];simp [affM]
     ·rintro mz s' H' ⟨u, hu, rfl, rfl, b3, b10, b13, b50, b51, b52⟩;unfold affH;have hcnt := qbp9 la p.ed (l.take u);rw [List.length_take] at hcnt;have e0 := xah9 (affM la p.ed (l.take u));rcases Nat.lt_or_ge u l.length with hlt|hge
      ·obtain rfl := hzl.resolve_left (by rintro rfl; simp at hlt);have e1 := wG0 l u hlt;have e2 := zce9 la p.ed l u hlt;have hmem : l.getD u wD ∈ l := by
        rw [List.getD_eq_getElem?_getD, List.getElem?_eq_getElem hlt]; exact List.getElem_mem hlt
       have hw := kbK9 (hsym _ hmem);have hwl := hs u hlt;generalize affM la p.ed (l.take u) = acc at *;generalize (l.getD u wD).1 = w at *;generalize (l.getD u wD).2 = cw at *;repeat' (first|refine nv ?_|(with_reducible first|refine gG ?_ ?_|refine ⟨fun h => ?_, fun h => ?_⟩ <;> try omega|refine andG ?_)|refine cp_ h1 ?_|refine cp_ h2 ?_|simp (disch := try exact qa0) only [push_cast, simprocAttr, b3, b10, b13, b50, b51, b52, e1])
       refine go_loop rfl (fun m s' H' => ∃ (j : Nat) (q : Nat), j ≤ w.length ∧ m = w.length - j ∧ q < la.length ∧ zaw9 la p.ed 0 w = zaw9 la p.ed q (w.drop j) ∧ H' = [.row 3 30 [[.int .i64 i, .int .i64 o, .sl 1 (xb0 la) c]], .row 6 36 [[.int .i64 p.inp, .int .i64 p.o0, .int .i64 p.o1, .int .i64 p.s0, .int .i64 p.s1, .sl z (edsA p.ed) d]], .ob (.map 33 4 (mapK ks)), .row 1 50 (wsA acc)] ∧ s' 3 = .ptr 0 0 0 1 ∧ s' 10 = .mp 2 ∧ s' 13 = .own 3 acc.length acc.length none ∧ s' 15 = .sl 1 (ints w) cw ∧ s' 50 = .sl 1 (wsA l) cl ∧ s' 51 = .int .i64 l.length ∧ s' 52 = .int .i64 u ∧ s' 16 = .int .i64 q ∧ s' 56 = .sl 1 (ints w) cw ∧ s' 57 = .int .i64 w.length ∧ s' 58 = .int .i64 j) (m := w.length) (by first|exact wb0|fail) (Weak.refl _ _) ⟨0, 0, by omega, by omega, by omega, by simp, rfl, ?_⟩ ?_
       ·simp (disch := try exact qa0) only [push_cast, simprocAttr, b3, b10, b13, b50, b51, b52, e1]
       ·rintro mz s' H' ⟨j, q, hj, rfl, hq, hme, rfl, b3, b10, b13, b15, b50, b51, b52, b16, b56, b57, b58⟩;rcases Nat.lt_or_ge j w.length with hlt2|hge2
        ·have e3 := wc0 w j hlt2;rw [xce9 w j hlt2, zaw9, ← eany] at hme;have hx := hw (w.getD j 0) (by rw [List.getD_eq_getElem?_getD, List.getElem?_eq_getElem hlt2]; exact List.getElem_mem hlt2);have hrow := xf0 la q hq;have hlen := hI q hq;have hto : toAt la q (w.getD j 0) = ((la.getD q ([], none)).1.getD (w.getD j 0).toNat (0, 0)).1 := by simp [toAt]
         have hld := hLd q (w.getD j 0).toNat hq (by omega);rw [show (((w.getD j 0).toNat : Nat) : Int) = w.getD j 0 by omega, hto] at hld;rw [hto] at hme;generalize (la.getD q ([], none)).1 = r at *;generalize (la.getD q ([], none)).2 = cr at *;generalize w.getD j 0 = y at *;have e4 := zg0 r y.toNat (by omega);generalize r.getD y.toNat (0, 0) = f at *;obtain ⟨t, tq⟩ := f;simp only [eA] at e4;dsimp only at hme hld;cases hk : ks.any fun x => decide (x = ((q : Int), y)) with
         | true =>
          rw [if_pos hk] at hme;rw [if_pos hme] at e2;have hK := fun H => qda9 w 1 cw H (.inr rfl) hwl;have et : (ints w).take w.length = ints w := List.take_of_length_le (by simp [ints]);have hC := xbJ9 4 w.length w.length 3 (ints w) none;repeat' (first|refine nv ?_|(with_reducible first|refine gG ?_ ?_|refine ⟨fun h => ?_, fun h => ?_⟩ <;> try omega|refine andG ?_)|refine cl_ (hK _) ?_|refine cl_ (hC _ rfl (zb0 w).symm) ?_|simp (disch := try exact qa0) only [push_cast, simprocAttr, b3, b10, b13, b15, b50, b51, b52, b16, b56, b57, b58, e3, hk])
          refine vg0 (l.length - (u + 1)) 4 (j := 4) rfl (by omega) (by first|exact wb0|fail) (by omega) (by simp [frzH]) (by simp [frzH, frzB, frz, Blk.below, idsE, idsL, AV.ids, vab9, qi0, zd0, zb0, et]) ⟨u + 1, by omega, rfl, ?_, ?_⟩
          ·rw [e2];simp [frzH, frzB, frz, qi0, affH, zb0, et];simp [wsA]
          ·rw [e2, List.length_append];simp (disch := try exact qa0) only [push_cast, simprocAttr, b3, b10, b13, b15, b50, b51, b52, b16, b56, b57, b58, qe0, frz, AV.ids, idsL, kO0]
         | false =>
          rw [if_neg (by simp [hk])] at hme;by_cases ht : t = -1
          ·subst ht;rw [if_pos rfl] at hme;rw [if_neg (by simp [hme]), List.append_nil] at e2;repeat' (first|refine nv ?_|(with_reducible first|refine gG ?_ ?_|refine ⟨fun h => ?_, fun h => ?_⟩ <;> try omega|refine andG ?_)|refine cl_ (hK _) ?_|refine cl_ (hC _ rfl (zb0 w).symm) ?_|simp (disch := try exact qa0) only [push_cast, simprocAttr, b3, b10, b13, b15, b50, b51, b52, b16, b56, b57, b58, e3, hk, hrow, hlen, e4])
           refine va0 (l.length - (u + 1)) 4 (by omega) (by first|exact wb0|fail) (by omega) (by simp) (by simp [Blk.below, idsE, idsL, AV.ids, vab9]) ⟨u + 1, by omega, rfl, by rw [e2]; rfl, ?_⟩;rw [e2];simp (disch := try exact qa0) only [push_cast, simprocAttr, b3, b10, b13, b15, b50, b51, b52, b16, b56, b57, b58, qe0, frz, AV.ids, idsL, kO0]
          ·rw [if_neg ht] at hme;obtain ⟨t2, rfl⟩ : ∃ t2 : Nat, t = t2 := ⟨t.toNat, by omega⟩;repeat' (first|refine nv ?_|(with_reducible first|refine gG ?_ ?_|refine ⟨fun h => ?_, fun h => ?_⟩ <;> try omega|refine andG ?_)|refine cl_ (hK _) ?_|refine cl_ (hC _ rfl (zb0 w).symm) ?_|simp (disch := try exact qa0) only [push_cast, simprocAttr, b3, b10, b13, b15, b50, b51, b52, b16, b56, b57, b58, e3, hk, hrow, hlen, e4, ht])
           refine qb0 (w.length - (j + 1)) (by omega) (by first|exact wb0|fail) ⟨j + 1, t2, by omega, rfl, by omega, hme, rfl, ?_⟩;simp (disch := try exact qa0) only [push_cast, simprocAttr, b3, b10, b13, b15, b50, b51, b52, b16, b56, b57, b58, e3, hk, hrow, hlen, e4, ht]
        ·obtain rfl : j = w.length := by omega
         rw [List.drop_length, zaw9] at hme;rw [if_neg (by simp [hme]), List.append_nil] at e2;repeat' (first|refine nv ?_|(with_reducible first|refine gG ?_ ?_|refine ⟨fun h => ?_, fun h => ?_⟩ <;> try omega|refine andG ?_)|refine cl_ (hK _) ?_|refine cl_ (hC _ rfl (zb0 w).symm) ?_|simp (disch := try exact qa0) only [push_cast, simprocAttr, b3, b10, b13, b15, b50, b51, b52, b16, b56, b57, b58])
         refine va0 (l.length - (u + 1)) 4 (by omega) (by first|exact wb0|fail) (by omega) (by simp) (by simp [Blk.below, idsE, idsL, AV.ids, vab9]) ⟨u + 1, by omega, rfl, by rw [e2]; rfl, ?_⟩;rw [e2];simp (disch := try exact qa0) only [push_cast, simprocAttr, b3, b10, b13, b15, b50, b51, b52, b16, b56, b57, b58, qe0, frz, AV.ids, idsL, kO0]
      ·obtain rfl : u = l.length := by omega
       rw [List.take_length] at *;have hCl := vbK9 3 (affM la p.ed l).length (affM la p.ed l).length 50 (wsA (affM la p.ed l)) none;repeat' (first|refine nv ?_|(with_reducible first|refine gG ?_ ?_|refine ⟨fun h => ?_, fun h => ?_⟩ <;> try omega|refine andG ?_)|refine cl_ (hCl _ rfl (xah9 _).symm) ?_|simp (disch := try exact qa0) only [push_cast, simprocAttr, b3, b10, b13, b50, b51, b52, e0])
end Go.Proofs
