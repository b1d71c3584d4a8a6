import Derived.Test.YtcoakjnmnommpaaGreatDoorA37
import Derived.Test.YtcoakjnmnommpaaGreatDoorAShelf
import Derived.Test.YtcoakjnmnommpaaGreatDoorAP2
import Derived.Test.YtcoakjnmnommpaaGreatDoorV33
import Derived.Test.YtcoakjnmnommpaaGreatDoorAQ1
import Derived.Test.YtcoakjnmnommpaaGreatDoorA20
import Derived.Lib.ItoaLen
namespace Go.Proofs
open Go Go.V Go.RowKit
set_option linter.unusedVariables false
set_option linter.unusedSimpArgs false
set_option maxHeartbeats 0
set_option maxRecDepth 100000
theorem vdB9 (H : List Blk) (n : Int) (h0 : -9223372036854775808 ≤ n) (h1 : n ≤ 9223372036854775807) : wd0 Tryz.prog G0 62 [.int .i64 n] H (.str (Lib.itoa n)) H :=
 vdL9 (g := 1) (by kernel_rfl) rfl (fun n h0 h1 w ht => Tryz.strconv_Itoa n h0 h1 w ht) n h0 h1
theorem ven9 (H : List Blk) (s : List UInt8) (hl : s.length ≤ 281474976710656) : wd0 Tryz.prog G0 80 [.str s] H (.tup [.int .i64 (xaj9 s).1, errA (xaj9 s).2]) H :=
 kdL9 (gs := 3) (gr := 4) rfl rfl (fun s hm v h w => Tryz.strconv_Atoi_ok s hm v h w) (fun s hl h ev w h1 h2 => Tryz.strconv_Atoi_syntax s hl h ev w h1 h2) (fun s hl h ev w h1 h2 => Tryz.strconv_Atoi_range s hl h ev w h1 h2) s hl
theorem zbM9 (H : List Blk) (s sep : List UInt8) (hs : s.length < 4294967281) (h1 : 1 ≤ sep.length) : wd0 Tryz.prog G0 71 [.str s, .str sep] H (.sl 1 (strs (wx0 s sep)) (some (wx0 s sep).length)) H :=
 zdh9 (gm := 2) rfl (fun s sep m w hs hm h1 => Tryz.strings_Split s sep m w hs hm h1) s sep hs h1
theorem kaZ9 (s p : List UInt8) : p.isSuffixOf s = (decide (p.length ≤ s.length) && decide (s.drop (s.length - p.length) = p)) := by
 rw [l'u, z'l, l'a, decide_eq_true_eq, decide_eq_true_eq];constructor
 ·rintro ⟨t, rfl⟩; simp
 ·rintro ⟨h1, h2⟩; exact ⟨s.take (s.length - p.length), by have := l'Q (s.length - p.length) s; rwa [h2] at this⟩
theorem xbM9 (s p : List UInt8) (hs : s.length ≤ 1000000) (hp : p.length ≤ 1000000) : PC Tryz.prog G0 83 [.str s, .str p] (.bool (p.isSuffixOf s)) := by
 rw [kaZ9];by_cases h : p.length ≤ s.length
 ·have e1 : ((s.length : Int) - p.length).toNat = s.length - p.length := by omega
  refine qc0 0 21 [.tmp 4] Tryz.func83 rfl rfl rfl (by simp) ?_;intro s ⟨a0, a1, hz⟩;simp only [l'm, Nat.reduceAdd] at a1;clear hz;repeat' (first|refine nv ?_|(with_reducible first|refine gG ?_ ?_|refine ⟨fun h => ?_, fun h => ?_⟩ <;> try omega|refine andG ?_)|simp (disch := try exact qa0) only [push_cast, simprocAttr, a0, a1, h, e1])
 ·have e1 : ¬ (p.length : Int) ≤ s.length := by omega
  refine qc0 0 21 [.tmp 4] Tryz.func83 rfl rfl rfl (by simp) ?_;intro s ⟨a0, a1, hz⟩;simp only [l'm, Nat.reduceAdd] at a1;clear hz;repeat' (first|refine nv ?_|(with_reducible first|refine gG ?_ ?_|refine ⟨fun h => ?_, fun h => ?_⟩ <;> try omega|refine andG ?_)|simp (disch := try exact qa0) only [push_cast, simprocAttr, a0, a1, h, e1])
def xH0 (s p : List UInt8) : List UInt8 × Bool := if p.isSuffixOf s = true then (s.take (s.length - p.length), true) else (s, false)
theorem wbM9 (s p : List UInt8) (hs : s.length ≤ 1000000) (hp : p.length ≤ 1000000) : PC Tryz.prog G0 78 [.str s, .str p] (.tup [.str (xH0 s p).1, .bool (xH0 s p).2]) := by
 have h1 := xbM9 s p hs hp;unfold xH0;cases h : p.isSuffixOf s with
 | true =>
  rw [h] at h1;have hl : p.length ≤ s.length := by
   rw [kaZ9, l'a] at h; simpa using h.1
  have e1 : ((s.length : Int) - p.length).toNat = s.length - p.length := by omega
  refine qc0 0 18 [.tmp 4, .tmp 5] Tryz.func78 rfl rfl rfl (by simp) ?_;intro s ⟨a0, a1, hz⟩;simp only [l'm, Nat.reduceAdd] at a1;clear hz;repeat' (first|refine nv ?_|(with_reducible first|refine gG ?_ ?_|refine ⟨fun h => ?_, fun h => ?_⟩ <;> try omega|refine andG ?_)|refine cp_ h1 ?_|simp (disch := try exact qa0) only [push_cast, simprocAttr, a0, a1, e1])
  all_goals omega
 | false =>
  rw [h] at h1;refine qc0 0 18 [.tmp 4, .tmp 5] Tryz.func78 rfl rfl rfl (by simp) ?_;intro s ⟨a0, a1, hz⟩;simp only [l'm, Nat.reduceAdd] at a1;clear hz;repeat' (first|refine nv ?_|(with_reducible first|refine gG ?_ ?_|refine ⟨fun h => ?_, fun h => ?_⟩ <;> try omega|refine andG ?_)|refine cp_ h1 ?_|simp (disch := try exact qa0) only [push_cast, simprocAttr, a0, a1])
theorem vbM9 (s p : List UInt8) (hs : s.length ≤ 1000000) (hp : p.length ≤ 1000000) : PC Tryz.prog G0 70 [.str s, .str p] (.tup [.str (xH0 s p).1, .bool (xH0 s p).2]) := by
 have h1 := wbM9 s p hs hp;generalize xH0 s p = c at *;refine qc0 0 11 [.tmp 4, .tmp 5] Tryz.func70 rfl rfl rfl (by simp) ?_;intro s ⟨a0, a1, hz⟩;simp only [l'm, Nat.reduceAdd] at a1;clear hz;repeat' (first|refine nv ?_|(with_reducible first|refine gG ?_ ?_|refine ⟨fun h => ?_, fun h => ?_⟩ <;> try omega|refine andG ?_)|refine cp_ h1 ?_|simp (disch := try exact qa0) only [push_cast, simprocAttr, a0, a1])
def vaM9 (first : List UInt8) (l : List Int) (k : Nat) : List UInt8 := Lib.join (first :: (l.take k).map Lib.itoa) [32]
theorem qba9 (first : List UInt8) (l : List Int) : vaM9 first l 0 = first := by rw [vaM9, List.take_zero, List.map_nil, xr0]
theorem zba9 (first : List UInt8) (l : List Int) (k : Nat) (h : k < l.length) : vaM9 first l (k + 1) = vaM9 first l k ++ ([32] ++ Lib.itoa (l.getD k 0)) := by
 rw [vaM9, xd0 l 0 k h, z'g, List.map_singleton, ← List.cons_append, zbv9 _ _ _ (by simp), vaM9]
theorem kbz9 (first : List UInt8) (l : List Int) : vaM9 first l l.length = kK0 first l := by rw [vaM9, l'x, kK0]
theorem kaM9 (first : List UInt8) (l : List Int) (hi : ∀ x ∈ l, -9223372036854775808 ≤ x ∧ x ≤ 9223372036854775807) : ∀ k, k ≤ l.length → (vaM9 first l k).length ≤ first.length + 22 * k
 | 0, _ => by rw [qba9]; omega
 | k + 1, h => by
  have ih := kaM9 first l hi k (by omega)
  have hx := hi (l.getD k 0) (by rw [l'b, l'e (by omega)]; exact l'X _);have := Lib.itoa_length_le (l.getD k 0) hx.1 hx.2;rw [zba9 _ _ _ (by omega), l'v, l'v, List.length_singleton];omega
def lnT (t first : List UInt8) (l : List Int) (k : Nat) : List UInt8 := t ++ vaM9 first l k
def lnE (t first : List UInt8) (l : List Int) : List UInt8 := t ++ (kK0 first l ++ [10])
theorem vcR9 (t first : List UInt8) (l : List Int) (k : Nat) : (lnT t first l k).length = t.length + (vaM9 first l k).length := by rw [lnT, l'v]
theorem kcR9 (t first : List UInt8) (l : List Int) (hi : ∀ x ∈ l, -9223372036854775808 ≤ x ∧ x ≤ 9223372036854775807) : (lnE t first l).length ≤ t.length + first.length + 22 * l.length + 1 := by
 have := kaM9 first l hi l.length (l'f _)
 rw [kbz9] at this;rw [lnE, l'v, l'v, List.length_singleton];omega
set_option maxRecDepth 100000 in
theorem kdB9 (first t : List UInt8) (z : Nat) (l : List Int) (c : Option Nat) (B0 P0 : Blk) (K : List Blk) (hz : l = [] ∨ z = 1) (hi : ∀ x ∈ l, -9223372036854775808 ≤ x ∧ x ≤ 9223372036854775807) (hl : l.length ≤ 1000000) (ht : t.length + first.length ≤ 1000000)
  (hP : (P0 = bldB (.ptr 1 0 0 1) t.length) ∨ (P0 = bldB (.lit (.pointer none)) 0 ∧ t = [])) :
  wd0 Tryz.prog G0 60 [.str first, .sl z (ints l) c, .ptr 1 0 0 1] (B0 :: P0 :: .row 1 5 (byt t) :: K) (.tup []) (B0 :: bldB (.ptr 1 0 0 1) (lnE t first l).length :: .row 1 5 (byt (lnE t first l)) :: K) := by
 have hil := xa0 l;have hlk := kaM9 first l hi
 have hid : ∀ p, idsE p (ints l) = true := fun p => wa0 _ _;have hW1 : wd0 Tryz.prog G0 61 [.ptr 1 0 0 1, .str first] (B0 :: P0 :: .row 1 5 (byt t) :: K) (.tup [.int .i64 first.length, .lit .nilIface]) (B0 :: bldB (.ptr 1 0 0 1) (lnT t first l 0).length :: .row 1 5 (byt (lnT t first l 0)) :: K) := by
  rw [lnT, qba9];rcases hP with rfl|⟨rfl, rfl⟩
  ·exact zQ0 t first B0 K (by omega)
  ·exact qag9 first B0 K (by simp only [List.length_nil] at ht; omega)
 generalize hP0 : P0 = P0' at *;unfold bldB at hW1 ⊢;refine zJ0 21 [] Tryz.func60 rfl rfl rfl (by simp) ?_;intro s ⟨a0, a1, a2, hz⟩;simp only [l'm, Nat.reduceAdd] at a1 a2;clear hz;repeat' (first|refine nv ?_|(with_reducible first|refine gG ?_ ?_|refine ⟨fun h => ?_, fun h => ?_⟩ <;> try omega|refine andG ?_)|refine cl_ hW1 ?_|simp (disch := try exact qa0) only [push_cast, simprocAttr, a0, a1, a2, hil])
 refine go_loop rfl (fun mz s' H' => ∃ k : Nat, k ≤ l.length ∧ mz = l.length - k ∧ H' = (B0 :: .row 2 95 [[.ptr 1 0 0 1, .own 2 (lnT t first l k).length (lnT t first l k).length none]] :: .row 1 5 (byt (lnT t first l k)) :: K) ∧ s' 2 = .ptr 1 0 0 1 ∧ s' 9 = .sl z (ints l) c ∧ s' 10 = .int .i64 l.length ∧ s' 11 = .int .i64 k) (m := l.length) (by first|exact va0|fail) (Weak.refl _ _) ⟨0, by omega, by omega, rfl, ?_⟩ ?_
 ·simp (disch := try exact qa0) only [push_cast, simprocAttr, a0, a1, a2, hil]
 ·rintro mz s' H' ⟨k, hk, rfl, rfl, b2, b9, b10, b11⟩;have hlk := hlk k hk;rcases l'i k l.length with hlt|hge
  ·obtain rfl := hz.resolve_left (by intro h; rw [h] at hlt; simp at hlt);have e1 := xc0 l k hlt;have hx := hi (l.getD k 0) (by rw [l'b, l'e hlt]; exact l'X _);have hil2 := Lib.itoa_length_le (l.getD k 0) hx.1 hx.2;have hI := fun H => vdB9 H (l.getD k 0) hx.1 hx.2;have hW := zQ0 (lnT t first l k) ([32] ++ Lib.itoa (l.getD k 0)) B0 K (by rw [vcR9]; simp only [l'v, List.length_singleton]; omega);have hns : lnT t first l k ++ ([32] ++ Lib.itoa (l.getD k 0)) = lnT t first l (k + 1) := by rw [lnT, l'A, ← zba9 _ _ _ hlt, lnT]
   rw [hns] at hW;unfold bldB at hW;generalize l.getD k 0 = n at *;repeat' (first|refine nv ?_|(with_reducible first|refine gG ?_ ?_|refine ⟨fun h => ?_, fun h => ?_⟩ <;> try omega|refine andG ?_)|refine cl_ (hI _) ?_|refine cl_ hW ?_|simp (disch := try exact qa0) only [push_cast, simprocAttr, b2, b9, b10, b11, e1, hil])
   refine za0 (l.length - (k + 1)) (by omega) (by first|exact va0|fail) ⟨k + 1, by omega, rfl, rfl, ?_⟩;simp (disch := try exact qa0) only [push_cast, simprocAttr, b2, b9, b10, b11, e1, hil]
  ·obtain rfl : l.length = k := by omega
   have hW := zQ0 (lnT t first l l.length) [10] B0 K (by rw [vcR9]; simp only [l'v, List.length_singleton]; omega);have hns : lnT t first l l.length ++ [10] = lnE t first l := by rw [lnT, lnE, kbz9, l'A]
   rw [hns] at hW;unfold bldB at hW;repeat' (first|refine nv ?_|(with_reducible first|refine gG ?_ ?_|refine ⟨fun h => ?_, fun h => ?_⟩ <;> try omega|refine andG ?_)|refine cl_ hW ?_|simp (disch := try exact qa0) only [push_cast, simprocAttr, b2, b9, b10, b11])
def zag9 (l : List LC) (ac : List Bool) (s : Nat) : List (List Int × Bool) := (List.range s).map fun s => ((l.getD s ([], none)).1, ac.getD s false)
def txK (A : Int) (l : List LC) (ac : List Bool) : Nat → List UInt8
 | 0 => lnE [] qy0 [A, (l.length : Int)]
 | s + 1 => lnE (txK A l ac s) (kA0 (ac.getD s false)) (l.getD s ([], none)).1
theorem qcS9 (l : List LC) (ac : List Bool) (s : Nat) : (zag9 l ac s).length = s := by simp [zag9]
theorem kdT9 (A : Int) (l : List LC) (ac : List Bool) : txK A l ac l.length = zV0 A (zag9 l ac l.length) := by
 have key : ∀ s, txK A l ac s = (kK0 qy0 [A, (l.length : Int)] :: qv0 (zag9 l ac s)).flatMap fun x => x ++ [10] := fun s => by
  induction s with
  | zero => simp [txK, lnE, qv0, zag9]
  | succ s ih =>
   have e : qv0 (zag9 l ac (s + 1)) = qv0 (zag9 l ac s) ++ [kK0 (kA0 (ac.getD s false)) (l.getD s ([], none)).1] := by simp [qv0, zag9, l'Z]
   rw [txK, ih, lnE, e, ← List.cons_append, List.flatMap_append, List.flatMap_singleton]
 rw [key, zV0, qcS9]
theorem zcS9 {A : Nat} {l : List LC} {ac : List Bool} (hok : OkDv A (kd0 l) ac.length) : ∀ s, s ≤ l.length → (txK A l ac s).length ≤ 100 + s * 400
 | 0, _ => by
  have h2 := hok.a2;have h3 := hok.n;rw [ve0] at h3;have := kcR9 [] qy0 [(A : Int), (l.length : Int)] (fun x hx => by simp at hx; omega);rw [txK];simp only [List.length_nil, List.length_cons, qy0] at this ⊢;omega
 | s + 1, h => by
  have ih := zcS9 hok s (by omega);have h2 := hok.a2;have h3 := hok.n;rw [ve0] at h3;have hr := hok.row (l := l) (s := s) (by omega);have := kcR9 (txK A l ac s) (kA0 (ac.getD s false)) (l.getD s ([], none)).1 (fun x hx => by
   obtain ⟨a, ha, rfl⟩ := l'G hx;have := hok.at (l := l) (s := s) (a := a) (by omega) (by omega);rw [l'b (l := (l.getD s ([], none)).1), l'e ha, Option.getD_some] at this;omega)
  have hsg : (kA0 (ac.getD s false)).length = 1 := by cases ac.getD s false <;> rfl
  rw [txK, Nat.succ_mul];omega
def zcp9 (sym : Int) (l : List LC) (ac : List Bool) : AV := if vd0 sym (kd0 l) ac.length ≠ 0 then .tup [.str [], .int .i64 (vd0 sym (kd0 l) ac.length)] else .tup [.str (zV0 sym (zag9 l ac l.length)), .int .i64 0]
theorem xbZ9 (p : Nat → Bool) (s : List UInt8) : idsE p (byt s) = true := xA0 _ _ fun x => by simp [idsL, AV.ids]
def mpT : List (AV × AV) := updA (updA [] (.bool true) (.str [43])) (.bool false) (.str [45])
theorem mpT1 : kag9 Tryz.prog 4 [] (.bool true) = true := by kernel_rfl
theorem mpT2 : kag9 Tryz.prog 4 (updA [] (.bool true) (.str [43])) (.bool false) = true := by kernel_rfl
theorem mpT3 (b : Bool) : kag9 Tryz.prog 4 (updA (updA [] (.bool true) (.str [43])) (.bool false) (.str [45])) (.bool b) = true := by cases b <;> kernel_rfl
theorem mpT4 (z : AV) (b : Bool) : zS0 z (updA (updA [] (.bool true) (.str [43])) (.bool false) (.str [45])) (.bool b) = .str (kA0 b) := by cases b <;> rfl
set_option maxRecDepth 100000 in
theorem xcS9 (sym : Int) (zr : Nat) (l : List LC) (c : Option Nat) (za : Nat) (ac : List Bool) (ca : Option Nat) (hsz : SizeD zr l za ac) : PC Tryz.prog G0 27 [dA sym zr l c za ac ca] (zcp9 sym l ac) := by
 have hck := hsz.check (sym := sym) (c := c) (ca := ca);have hidR : ∀ p, idsE p (rowL l) = true := fun p => vc0 _ _;have hidA : ∀ p, idsE p (qb0 ac) = true := fun p => zd0 _ _;unfold zcp9;by_cases h0 : vd0 sym (kd0 l) ac.length = 0
 ·rw [if_neg (by simp [h0])];rw [h0] at hck;obtain ⟨A, rfl, hok⟩ := qV0 h0;have hlen := zcS9 hok;have hrow := fun s h => hok.row (l := l) (s := s) h;have hat := fun s a h1 h2 => hok.at (l := l) (s := s) (a := a) h1 h2;have hall := kdT9 A l ac;have hn := hok.n;have hn1 := hok.n1;have hm := hok.m;have hA := hok.a2;rw [ve0] at hn hn1 hm;obtain rfl := hsz.zl.resolve_left (by intro h; rw [h] at hn1; simp at hn1);obtain rfl := hsz.zac.resolve_left (by intro h; rw [h] at hm; simp at hm; omega);have hRl := zb0 l;have hAl := zc0 ac;have e1 := xg0 l;have e2 := ql0 ac;have hB : ∃ B0, B0 = Blk.row 3 47 [[.int .i64 (A : Int), .sl 1 (rowL l) c, .sl 1 (qb0 ac) ca]] := ⟨_, rfl⟩;obtain ⟨B0, hB0⟩ := hB;have hW0 := kdB9 qy0 [] 1 [(A : Int), (l.length : Int)] (some 2) B0 (bldB (.lit (.pointer none)) 0) [] (.inr rfl) (fun x hx => by simp at hx; omega) (by simp) (by simp [qy0]) (.inr ⟨rfl, rfl⟩);unfold bldB qy0 at hW0;rw [hB0] at hW0;unfold dA at *;generalize rowL l = RN at *;generalize qb0 ac = BA at *;refine qc0 0 44 [.tmp 2, .tmp 3] Tryz.func27 rfl rfl rfl (by simp) ?_;intro s ⟨a0, hz⟩;clear hz;repeat' (first|(first|(with_reducible refine xz0 (p := [0, 1, 1, 1]) ?_)|refine nav ?_|(refine g0_ ?_; first|refine goD ?_))|(with_reducible first|refine gG ?_ ?_|refine ⟨fun h => ?_, fun h => ?_⟩ <;> try omega|refine andG ?_)|refine cp_ hck ?_ (hi := by (simp [idsL, idsE, AV.ids, hidR, hidA]))|simp (disch := try exact qa0) only [push_cast, simprocAttr, a0, hRl, en60])
  refine Halt.mk (vv0 (by first|exact va0|fail) (wg0 (b := 1) (i := 0) (j := 1) (sz := 1) (ty := 5) rfl rfl rfl) ?_);repeat' (first|refine nv ?_|(with_reducible first|refine gG ?_ ?_|refine ⟨fun h => ?_, fun h => ?_⟩ <;> try omega|refine andG ?_)|refine cl_ hW0 ?_|simp (disch := try exact qa0) only [push_cast, simprocAttr, a0, hRl, en60])
  refine go_loop rfl (fun mz s' H' => ∃ s : Nat, s ≤ l.length ∧ mz = l.length - s ∧ H' = [Blk.row 3 47 [[.int .i64 A, .sl 1 RN c, .sl 1 BA ca]], .row 2 95 [[.ptr 1 0 0 1, .own 2 (txK A l ac s).length (txK A l ac s).length none]], .row 1 5 (byt (txK A l ac s))] ∧ s' 1 = .ptr 0 0 0 1 ∧ s' 5 = .ptr 1 0 0 1 ∧ s' 6 = .fn 60 [.ptr 1 0 0 1] ∧ s' 24 = .sl 1 RN c ∧ s' 25 = .int .i64 l.length ∧ s' 26 = .int .i64 s) (m := l.length) (by first|exact va0|fail) (Weak.refl _ _) ⟨0, by omega, by omega, rfl, ?_⟩ ?_
  ·simp (disch := try exact qa0) only [push_cast, simprocAttr, a0, hRl, en60]
  ·rintro mz s' H' ⟨s, hs, rfl, rfl, b1, b5, b6, b24, b25, b26⟩;have hlen := hlen s hs;rcases l'i s l.length with hlt|hge
   ·have e1s := e1 s hlt;have e2s := e2 s (by omega);have hrow := hrow s hlt;have hW := fun K => kdB9 (kA0 (ac.getD s false)) (txK A l ac s) 1 (l.getD s ([], none)).1 (l.getD s ([], none)).2 B0 (bldB (.ptr 1 0 0 1) (txK A l ac s).length) K (.inr rfl) (fun x hx => by
     obtain ⟨a, ha, rfl⟩ := l'G hx;have := hat s a hlt (by omega);rw [l'b (l := (l.getD s ([], none)).1), l'e ha, Option.getD_some] at this;omega) (by omega) (by have hsg : (kA0 (ac.getD s false)).length = 1 := (by cases ac.getD s false <;> rfl); omega) (.inl rfl)
    have hnx : txK A l ac (s + 1) = lnE (txK A l ac s) (kA0 (ac.getD s false)) (l.getD s ([], none)).1 := rfl;rw [← hnx] at hW;unfold bldB at hW;rw [hB0] at hW;unfold lC at e1s;generalize txK A l ac s = t at *;generalize ht2 : txK A l ac (s + 1) = t' at *;generalize ints (l.getD s ([], none)).1 = IR at *;generalize (l.getD s ([], none)).2 = cr at *;cases hb : ac.getD s false with
    | true =>
     rw [hb] at hW e2s;repeat' (first|refine nv ?_|(with_reducible first|refine gG ?_ ?_|refine ⟨fun h => ?_, fun h => ?_⟩ <;> try omega|refine andG ?_)|refine cl_ (hW _) ?_|simp (disch := try exact qa0) only [push_cast, simprocAttr, b1, b5, b6, b24, b25, b26, e1s, e2s, hRl, hAl, en60, mpT1, mpT2, mpT3, mpT4])
     refine kq0 (l.length - (s + 1)) 3 (by omega) (by first|exact va0|fail) (by omega) (by simp) (by simp [Blk.below, idsE, idsL, AV.ids, hidR, hidA, xbZ9]) ⟨s + 1, by omega, rfl, by rw [ht2]; rfl, ?_⟩;simp (disch := try exact qa0) only [push_cast, simprocAttr, b1, b5, b6, b24, b25, b26, ki0, AV.ids, idsL];rw [if_pos (hidR _)]
    | false =>
     rw [hb] at hW e2s;repeat' (first|refine nv ?_|(with_reducible first|refine gG ?_ ?_|refine ⟨fun h => ?_, fun h => ?_⟩ <;> try omega|refine andG ?_)|refine cl_ (hW _) ?_|simp (disch := try exact qa0) only [push_cast, simprocAttr, b1, b5, b6, b24, b25, b26, e1s, e2s, hRl, hAl, en60, mpT1, mpT2, mpT3, mpT4])
     refine kq0 (l.length - (s + 1)) 3 (by omega) (by first|exact va0|fail) (by omega) (by simp) (by simp [Blk.below, idsE, idsL, AV.ids, hidR, hidA, xbZ9]) ⟨s + 1, by omega, rfl, by rw [ht2]; rfl, ?_⟩;simp (disch := try exact qa0) only [push_cast, simprocAttr, b1, b5, b6, b24, b25, b26, ki0, AV.ids, idsL];rw [if_pos (hidR _)]
   ·obtain rfl : l.length = s := by omega
    rw [hall] at *;have hS := kdq9 (zV0 A (zag9 l ac l.length)) B0 (by rw [zV0, List.flatMap_cons]; simp) (by omega);unfold bldB at hS;rw [hB0] at hS;repeat' (first|refine nv ?_|(with_reducible first|refine gG ?_ ?_|refine ⟨fun h => ?_, fun h => ?_⟩ <;> try omega|refine andG ?_)|refine cl_ hS ?_|simp (disch := try exact qa0) only [push_cast, simprocAttr, b1, b5, b6, b24, b25, b26, hRl])
 ·rw [if_pos h0];unfold dA at *;generalize rowL l = RN at *;generalize qb0 ac = BA at *;refine qc0 0 44 [.tmp 2, .tmp 3] Tryz.func27 rfl rfl rfl (by simp) ?_;intro s ⟨a0, hz⟩;clear hz;repeat' (first|refine nv ?_|(with_reducible first|refine gG ?_ ?_|refine ⟨fun h => ?_, fun h => ?_⟩ <;> try omega|refine andG ?_)|refine cp_ hck ?_ (hi := by (simp [idsL, idsE, AV.ids, hidR, hidA]))|simp (disch := try exact qa0) only [push_cast, simprocAttr, a0])
theorem ko0 (ps : List Bs) : (strs ps).length = ps.length := by simp [strs]
theorem kV0 (ps : List Bs) (k : Nat) (h : k < ps.length) : (strs ps).getD k [] = [.str (ps.getD k [])] := by simp [strs, h]
theorem vu0 (p : Nat → Bool) (ps : List Bs) : idsE p (strs ps) = true := xA0 _ _ fun x => by simp [idsL, AV.ids]
theorem ken9 : ∀ (p : Bs), digs p → p.length ≤ 4 → numF 0 p ≤ 9999
 | [], _, _ => by simp [numF]
 | [c], h, _ => by have := h c (by simp); simp only [numF]; omega
 | [c, d], h, _ => by
  have := h c (by simp); have := h d (by simp)
  simp only [numF]; omega
 | [c, d, e], h, _ => by
  have := h c (by simp); have := h d (by simp); have := h e (by simp)
  simp only [numF]; omega
 | [c, d, e, f], h, _ => by
  have := h c (by simp); have := h d (by simp); have := h e (by simp); have := h f (by simp)
  simp only [numF]; omega
 | _ :: _ :: _ :: _ :: _ :: _, _, h => by simp at h
theorem qW0 {f : Bs} {x : Int} (h : int4 f = some x) : 0 ≤ x ∧ x ≤ 9999 ∧ f.length ≤ 4 := by
 unfold int4 at h;split at h
 ·rename_i q;injection h with h; subst h
  exact ⟨qbi9 f 0 (by omega) q.1.2.1, ken9 f q.1.2.1 q.2, q.2⟩
 ·cases h
theorem wcS9 {n : Int} (h : 0 ≤ n ∧ n ≤ 9999) : xaj9 (Lib.itoa n) = (n, true) := by
 have hf : ∀ a b : Fin 100, xaj9 (Lib.itoa ((100 * a.1 + b.1 : Nat) : Int)) = (((100 * a.1 + b.1 : Nat) : Int), true) := by decide +kernel
 have := hf ⟨n.toNat / 100, by omega⟩ ⟨n.toNat % 100, by omega⟩;have e : ((100 * (n.toNat / 100) + n.toNat % 100 : Nat) : Int) = n := by omega
 simp only [e] at this;exact this
theorem vcS9 {f : Bs} {x : Int} (h : int4 f = some x) : xaj9 f = (x, true) := by
 rw [← zaK9 h]; exact wcS9 ⟨(qW0 h).1, (qW0 h).2.1⟩
theorem qdU9 {f : Bs} {v : Int} (h : Lib.itoa v = f) (h4 : f.length ≤ 4) (h0 : 0 ≤ v) : int4 f = some v := by
 obtain ⟨a, b, _⟩ := qZ0 v.toNat v h0 (by omega);rw [h] at a b;rw [int4, if_pos ⟨a, h4⟩, b]
theorem xba9 : ∀ (l : List Bs) (f : Bs), wi0 (l ++ [f]) = match wi0 l, int4 f with|some xs, some x => some (xs ++ [x])|_, _ => none
 | [], f => by cases h : int4 f <;> simp [wi0, h]
 | g :: l, f => by
  rw [List.cons_append, wi0, xba9 l f, wi0];cases int4 g <;> cases wi0 l <;> cases int4 f <;> simp
theorem wba9 : ∀ (l r : List Bs), wi0 l = none → wi0 (l ++ r) = none
 | [], r, h => by cases h
 | g :: l, r, h => by
  rw [List.cons_append, wi0];rw [wi0] at h;cases hg : int4 g with
  | none => simp
  | some x =>
   rw [hg] at h;cases hl : wi0 l with
   | none => rw [wba9 l r hl]
   | some xs => rw [hl] at h; simp at h
theorem wat9 {l : List Bs} {k : Nat} {xs : List Int} (hk : k < l.length) (h : wi0 (l.take k) = some xs) : (∀ x, int4 (l.getD k []) = some x → wi0 (l.take (k + 1)) = some (xs ++ [x])) ∧ (int4 (l.getD k []) = none → wi0 l = none) := by
 have e := xba9 (l.take k) (l.getD k []);rw [← xd0 l [] k hk, h] at e;refine ⟨fun x hx => by rw [e, hx], fun hx => ?_⟩;rw [hx] at e;rw [← l'Q (k + 1) l];exact wba9 _ _ e
theorem zW0 : ∀ {l : List Bs} {xs : List Int}, wi0 l = some xs → xs.length = l.length := fun h => by
 have := congrArg List.length (vK0 h);simpa using this
theorem xcp9 (l : Bs) {v : Int} (h : Lib.atoiAll l = .ok v) : -9223372036854775808 ≤ v ∧ v ≤ 9223372036854775807 := by
 unfold Lib.atoiAll at h;split at h
 ·cases h
 ·rename_i c r;simp only at h;split at h
  ·cases h
  ·cases h
  ·rename_i u _;split at h
   ·cases h
   ·split at h
    ·cases h
    ·rename_i h1 h2;injection h with h
     subst h;by_cases hn : c.toNat = 45
     ·rw [if_pos hn];have : ¬ 9223372036854775808 < u := fun q => h2 ⟨hn, q⟩;omega
     ·rw [if_neg hn];have : ¬ 9223372036854775808 ≤ u := fun q => h1 ⟨hn, q⟩;omega
theorem qdr9 (l : Bs) : -9223372036854775808 ≤ (xaj9 l).1 ∧ (xaj9 l).1 ≤ 9223372036854775807 := by
 unfold xaj9;split
 ·rename_i v h; exact xcp9 l h
 ·simp
 ·unfold Lib.atoiSat;split <;> simp
def qbA9 (l : List Bs) : AV := match wi0 l with|some xs => .tup [.sl 1 (ints xs) (some xs.length), .bool true]|none => .tup [.sl 0 [] (some 0), .bool false]
set_option maxRecDepth 100000 in
theorem zbA9 (z : Nat) (l : List Bs) (c : Option Nat) (hz : l = [] ∨ z = 1) (hl : l.length ≤ 1000000) (hb : ∀ f ∈ l, f.length ≤ 1000000) : PC Tryz.prog G0 72 [.sl z (strs l) c] (qbA9 l) := by
 have hSl := ko0 l;have hidS : ∀ p, idsE p (strs l) = true := fun p => vu0 _ _;have hno : wi0 l = none → qbA9 l = .tup [.sl 0 [] (some 0), .bool false] := fun h => by rw [qbA9, h]
 have hyes : ∀ xs, wi0 l = some xs → qbA9 l = .tup [.sl 1 (ints xs) (some xs.length), .bool true] := fun xs h => by rw [qbA9, h]
 generalize qbA9 l = R at *;refine qc0 1 43 [.tmp 2, .tmp 3] Tryz.func72 rfl rfl rfl (by simp) ?_;intro s ⟨a0, hz⟩;clear hz;repeat' (first|refine nv ?_|(with_reducible first|refine gG ?_ ?_|refine ⟨fun h => ?_, fun h => ?_⟩ <;> try omega|refine andG ?_)|simp (disch := try exact qa0) only [push_cast, simprocAttr, a0, hSl])
 refine go_loop rfl (fun mz s' H' => ∃ (k : Nat) (xs : List Int), k ≤ l.length ∧ mz = l.length - k ∧ wi0 (l.take k) = some xs ∧ H' = [.row 1 3 (ints xs)] ∧ s' 2 = .own 0 k k none ∧ s' 8 = .sl z (strs l) c ∧ s' 9 = .int .i64 l.length ∧ s' 10 = .int .i64 k) (m := l.length) (by first|exact va0|fail) (zN0 (t := 2) (sz := 1) (ty := 3) rfl) ⟨0, [], by omega, by omega, rfl, rfl, ?_⟩ ?_
 ·simp (disch := try exact qa0) only [push_cast, simprocAttr, a0, hSl]
 ·rintro mz s' H' ⟨k, xs, hk, rfl, hxs, rfl, b2, b8, b9, b10⟩;have hxl := zW0 hxs;rw [n't, n'E hk] at hxl;have hil := xa0 xs;rcases l'i k l.length with hlt|hge
  ·obtain rfl := hz.resolve_left (by intro h; rw [h] at hlt; simp at hlt);have e1 := kV0 l k hlt;have hnx := wat9 hlt hxs;have hfl := hb _ (wc0 (d := []) hlt);have hat := fun H => ven9 H (l.getD k []) (by omega);have hia := @vcS9 (l.getD k []);have hio := fun v => @qdU9 (l.getD k []) v;have hsn := fun v => zy0 xs v;have hids : ∀ p, idsE p (ints xs) = true := fun p => wa0 _ _;generalize l.getD k [] = f at *;generalize hav : xaj9 f = av at *;obtain ⟨v, ok⟩ := av;have hvb : -9223372036854775808 ≤ v ∧ v ≤ 9223372036854775807 := by have := qdr9 f; rw [hav] at this; exact this
   have hI := fun H => vdB9 H v hvb.1 hvb.2;have hbad : int4 f = none → R = .tup [.sl 0 [] (some 0), .bool false] := fun h => hno (hnx.2 h);have hgood : ∀ x, int4 f = some x → ok = true ∧ v = x := fun x h => by
    have := hia h; injection this with h1 h2; exact ⟨h2, h1⟩
   have hn4 : (¬ (ok = true ∧ f.length ≤ 4 ∧ Lib.itoa v = f ∧ 0 ≤ v)) → int4 f = none := fun h => by
    cases h4 : int4 f with
    | none => rfl
    | some x =>
     obtain ⟨rfl, rfl⟩ := hgood x h4;exact absurd ⟨rfl, (qW0 h4).2.2, zaK9 h4, (qW0 h4).1⟩ h
   cases ok with
   | false =>
    have hR := hbad (hn4 (by simp));rw [hR];repeat' (first|refine nv ?_|(with_reducible first|refine gG ?_ ?_|refine ⟨fun h => ?_, fun h => ?_⟩ <;> try omega|refine andG ?_)|refine cl_ (hat _) ?_|simp (disch := try exact qa0) only [push_cast, simprocAttr, b2, b8, b9, b10, e1, hSl, errA, zu0])
    refine ⟨.top, ?_⟩;repeat' (first|refine nv ?_|(with_reducible first|refine gG ?_ ?_|refine ⟨fun h => ?_, fun h => ?_⟩ <;> try omega|refine andG ?_)|refine cl_ (hat _) ?_|simp (disch := try exact qa0) only [push_cast, simprocAttr, b2, b8, b9, b10, e1, hSl, errA, zu0])
   | true =>
    by_cases c1 : 4 < f.length
    ·have hR := hbad (hn4 (by rintro ⟨_, q, _⟩; omega));rw [hR];have c1' : (4 : Int) < f.length := by omega
     repeat' (first|refine nv ?_|(with_reducible first|refine gG ?_ ?_|refine ⟨fun h => ?_, fun h => ?_⟩ <;> try omega|refine andG ?_)|refine cl_ (hat _) ?_|simp (disch := try exact qa0) only [push_cast, simprocAttr, b2, b8, b9, b10, e1, hSl, errA, zu0, c1'])
     refine ⟨.top, ?_⟩;repeat' (first|refine nv ?_|(with_reducible first|refine gG ?_ ?_|refine ⟨fun h => ?_, fun h => ?_⟩ <;> try omega|refine andG ?_)|refine cl_ (hat _) ?_|simp (disch := try exact qa0) only [push_cast, simprocAttr, b2, b8, b9, b10, e1, hSl, errA, zu0, c1'])
    ·have c1' : ¬ (4 : Int) < f.length := by omega
     by_cases c2 : Lib.itoa v = f
     ·by_cases c3 : v < 0
      ·have hR := hbad (hn4 (by rintro ⟨_, _, _, q⟩; omega));rw [hR];repeat' (first|refine nv ?_|(with_reducible first|refine gG ?_ ?_|refine ⟨fun h => ?_, fun h => ?_⟩ <;> try omega|refine andG ?_)|refine cl_ (hat _) ?_|refine cl_ (hI _) ?_|simp (disch := try exact qa0) only [push_cast, simprocAttr, b2, b8, b9, b10, e1, hSl, errA, zu0, c1', c2, c3])
      ·have hx := hnx.1 v (hio v c2 (by omega) (by omega));repeat' (first|refine nv ?_|(with_reducible first|refine gG ?_ ?_|refine ⟨fun h => ?_, fun h => ?_⟩ <;> try omega|refine andG ?_)|refine cl_ (hat _) ?_|refine cl_ (hI _) ?_|simp (disch := try exact qa0) only [push_cast, simprocAttr, b2, b8, b9, b10, e1, hSl, errA, zu0, c1', c2, c3, hil, hxl])
       refine za0 (l.length - (k + 1)) (by omega) (by first|exact va0|fail) ⟨k + 1, xs ++ [v], by omega, rfl, hx, by rw [← hsn], ?_⟩;simp (disch := try exact qa0) only [push_cast, simprocAttr, b2, b8, b9, b10, e1, hSl, errA, zu0, c1', c2, c3, hil, hxl]
     ·have hR := hbad (hn4 (by rintro ⟨_, _, q, _⟩; exact c2 q));rw [hR];repeat' (first|refine nv ?_|(with_reducible first|refine gG ?_ ?_|refine ⟨fun h => ?_, fun h => ?_⟩ <;> try omega|refine andG ?_)|refine cl_ (hat _) ?_|refine cl_ (hI _) ?_|simp (disch := try exact qa0) only [push_cast, simprocAttr, b2, b8, b9, b10, e1, hSl, errA, zu0, c1', c2])
  ·obtain rfl : l.length = k := by omega
   rw [l'x] at hxs;rw [hyes xs hxs];have hcl := fun H hb => kas9 0 l.length l.length 3 (ints xs) none H hb (by omega) (l'f _);have hids : ∀ p, idsE p (ints xs) = true := fun p => wa0 _ _;repeat' (first|refine nv ?_|(with_reducible first|refine gG ?_ ?_|refine ⟨fun h => ?_, fun h => ?_⟩ <;> try omega|refine andG ?_)|refine cl_ (hcl _ rfl) ?_|simp (disch := try exact qa0) only [push_cast, simprocAttr, b2, b8, b9, b10, hil, hxl])
end Go.Proofs
