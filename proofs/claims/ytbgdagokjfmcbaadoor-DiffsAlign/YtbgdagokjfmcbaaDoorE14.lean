import Derived.Test.YtbgdagokjfmcbaaDoorE12
import Derived.Test.YtbgdagokjfmcbaaDoorV57
namespace Go.Proofs
open Go Go.V
set_option linter.unusedVariables false
set_option linter.unusedSimpArgs false
set_option maxHeartbeats 0
set_option maxRecDepth 100000
theorem ref20_4 (I O O' : Nat) (la lb : List Row) (c d : Option Nat) (hb : we0 I O' lb = 0) (F : List Int) (hF1 : F.Nodup) (hF2 : ∀ x ∈ F, 0 ≤ x ∧ x < lb.length) (hF3 : F.length = lb.length) (PC BT : List (List AV)) (hidP : ∀ p, idsE p PC = true) (hidT : ∀ p, idsE p BT = true) (s : Nat → AV) (q2 : s 2 = .ptr 0 0 0 1) (q3 : s 3 = .ptr 1 0 0 1) (q5 : s 5 = .ptr 2 0 0 1) (q13 : s 13 = .own 4 lb.length lb.length (some lb.length)) :
  Go false Tryd.prog G0 0 246 (ws0 Tryd.f20) [0, 1, 1, 1, 1, 1, 1, 1] (xal9 false Tryd.prog G0 0 246 (ws0 Tryd.f20) [1, 1, 1, 1, 1, 1, 1, 1] (vaz9 Tryd.prog 246 [ResultVar.tmp 4, ResultVar.cell 5 30] 1 (.tup [.sl 1 (ints F) (some lb.length), .agg [.int .i64 I, .int .i64 O', .sl 1 (xb0 (capR none (zh0 F (edgesOf lb)))) (some lb.length)]]))) True s [.row 3 30 [[.int .i64 I, .int .i64 O, .sl 1 (xb0 la) c]], .row 3 30 [[.int .i64 I, .int .i64 O', .sl 1 (xb0 lb) d]], .row 3 30 [[.int .i64 0, .int .i64 0, .sl 0 [] (some 0)]], .row 2 33 PC, .row 1 3 (ints F), .row 1 4 BT] := by
 have m2 := xe0 hb;have wb := zH0 hb;have hlR := wa0 lb;have hidR : ∀ p, idsE p (xb0 lb) = true := fun p => ke0 _ _;have hidA : ∀ p, idsE p (xb0 la) = true := fun p => ke0 _ _;have hidF : ∀ p, idsE p (ints F) = true := fun p => wl0 _ _;have hlL : (ints F).length = lb.length := by rw [zb0, hF3]
 generalize hR : edgesOf lb = R at *;have hRl : R.length = lb.length := by rw [← hR, vc0]
 have hidI : ∀ p t, idsE p (alW F R none t) = true := fun p t => qaR9 p t;repeat' (first|(first|refine nav ?_|(refine g0_ ?_; first|refine dN (p := [0, 1, 1, 1, 1, 1, 1, 1]) [(188, 3), (189, 188), (190, 3), (191, 190)] [(195, none)] [(9, 10)] ?_|refine dN (p := [1, 1, 0, 0, 1, 0, 0, 1, 0, 0, 1, 0, 0, 1, 0, 1, 1, 1, 1, 1, 1, 1, 1]) [(226, 19), (227, 226), (230, 228), (231, 230)] [(242, some 239)] [] ?_|refine goD ?_))|(with_reducible first|refine gG ?_ ?_|refine ⟨fun h => ?_, fun h => ?_⟩ <;> try omega|refine andG ?_)|simp (disch := try exact qa0) only [push_cast, simprocAttr, q2, q3, q5, q13, hlR])
 refine go_loop rfl (fun mz s' H' => ∃ t : Nat, t ≤ lb.length ∧ mz = lb.length - t ∧ H' = [.row 3 30 [[.int .i64 I, .int .i64 O, .sl 1 (xb0 la) c]], .row 3 30 [[.int .i64 I, .int .i64 O', .sl 1 (xb0 lb) d]], .row 3 30 [[.int .i64 0, .int .i64 0, .sl 0 [] (some 0)]], .row 2 33 PC, .row 1 3 (ints F), .row 1 4 BT, .row 1 97 (alW F R none t), .row 3 30 [[.int .i64 I, .int .i64 O', .own 6 lb.length lb.length (some lb.length)]]] ∧ s' 2 = .ptr 0 0 0 1 ∧ s' 3 = .ptr 1 0 0 1 ∧ s' 5 = .ptr 2 0 0 1 ∧ s' 13 = .own 4 lb.length lb.length (some lb.length) ∧ s' 19 = .ptr 7 0 0 1 ∧ s' 20 = .int .i64 t) (m := lb.length) (by first|exact wb0|fail) (Weak.refl _ _) ⟨0, by omega, by omega, by rw [alW, hRl], ?_⟩ ?_
 ·simp (disch := try exact qa0) only [push_cast, simprocAttr, q2, q3, q5, q13, hlR]
 ·clear q2 q3 q5 q13;rintro mz s' H' ⟨t, ht, rfl, rfl, b2, b3, b5, b13, b19, b20⟩;have hWl : (alW F R none t).length = lb.length := by rw [vah9, hRl]
  have hWi : ∀ p, idsE p (alW F R none t) = true := fun p => qaR9 p t;rcases Nat.lt_or_ge t lb.length with htl|hge
  ·have hWs : alW F R none (t + 1) = (alW F R none t).set (F.getD t 0).toNat [.sl 2 (rowA (relE F (R.getD t []))) none] := rfl;have eF := wc0 F t (by omega);have hFb := hF2 _ (vt0 (show t < F.length by omega));have hnil := qck9 (c := none) (R := R) (by omega) hF1 (fun x hx => by rw [hRl]; exact hF2 x hx) t t (Nat.le_refl _) (by omega);generalize F.getD t 0 = p0 at *;obtain ⟨p, rfl⟩ : ∃ p : Nat, p0 = p := ⟨p0.toNat, by omega⟩;rw [Int.toNat_natCast] at hWs hnil;have e1 := xf0 lb t htl;have hwb := wb t htl;have hfit : ∀ j, j < I → ((lb.getD t ([], none)).1.getD j (0, 0)).1 = -1 ∨ (0 ≤ ((lb.getD t ([], none)).1.getD j (0, 0)).1 ∧ ((lb.getD t ([], none)).1.getD j (0, 0)).1 < lb.length) := fun j hj => qs0 hb t j htl hj;have hRt : R.getD t [] = (lb.getD t ([], none)).1 := by rw [← hR, kd0]
   rw [hRt] at hWs;generalize (lb.getD t ([], none)).2 = cr at *;generalize (lb.getD t ([], none)).1 = r at *;have hrl : (rowA r).length = I := by rw [za0, hwb]
   have hXl : (relE F r).length = I := by simp [relE, hwb]
   obtain ⟨W2, hW2⟩ : ∃ x, x = alW F R none (t + 1) := ⟨_, rfl⟩;rw [← hW2] at hWs;generalize hW : alW F R none t = WW at *;have hcell : WW[p]? = some [.sl 0 [] (some 0)] := by
    rw [List.getD_eq_getElem?_getD] at hnil;rw [List.getElem?_eq_getElem (by omega)] at hnil ⊢;exact congrArg some hnil
   have hws : ∀ v : List AV, (WW.set p v).getD p [] = v := fun v => by rw [List.getD_eq_getElem?_getD, List.getElem?_set_self (by omega)]; rfl
   have hwl : ∀ v : List AV, (WW.set p v).length = lb.length := fun v => by rw [List.length_set, hWl]
   repeat' (first|(first|refine nav ?_|(refine g0_ ?_; first|refine dN (p := [0, 1, 1, 1, 1, 1, 1, 1]) [(188, 3), (189, 188), (190, 3), (191, 190)] [(195, none)] [(9, 10)] ?_|refine dN (p := [1, 1, 0, 0, 1, 0, 0, 1, 0, 0, 1, 0, 0, 1, 0, 1, 1, 1, 1, 1, 1, 1, 1]) [(226, 19), (227, 226), (230, 228), (231, 230)] [(242, some 239)] [] ?_|refine goD ?_))|(with_reducible first|refine gG ?_ ?_|refine ⟨fun h => ?_, fun h => ?_⟩ <;> try omega|refine andG ?_)|simp (disch := try exact qa0) only [push_cast, simprocAttr, b2, b3, b5, b13, b19, b20, hlL, hlR, e1, hwb, hrl])
   refine zo0 (by first|exact wb0|fail) (vi0 (b := 6) (i := p) (j := 0) (sz := 2) (ty := 91) rfl hcell rfl) ?_;refine go_loop rfl (fun mz s2 H2 => ∃ j : Nat, j ≤ I ∧ mz = I - j ∧ H2 = [.row 3 30 [[.int .i64 I, .int .i64 O, .sl 1 (xb0 la) c]], .row 3 30 [[.int .i64 I, .int .i64 O', .sl 1 (xb0 lb) d]], .row 3 30 [[.int .i64 0, .int .i64 0, .sl 0 [] (some 0)]], .row 2 33 PC, .row 1 3 (ints F), .row 1 4 BT, .row 1 97 (WW.set p [.own 8 j j none]), .row 3 30 [[.int .i64 I, .int .i64 O', .own 6 lb.length lb.length (some lb.length)]], .row 2 91 (rowA ((relE F r).take j))] ∧ s2 2 = .ptr 0 0 0 1 ∧ s2 3 = .ptr 1 0 0 1 ∧ s2 5 = .ptr 2 0 0 1 ∧ s2 13 = .own 4 lb.length lb.length (some lb.length) ∧ s2 19 = .ptr 7 0 0 1 ∧ s2 20 = .int .i64 t ∧ s2 21 = .int .i64 j) (m := I) (by first|exact wb0|fail) (Weak.refl _ _) ⟨0, by omega, by omega, rfl, ?_⟩ ?_
   ·simp (disch := try exact qa0) only [push_cast, simprocAttr, b2, b3, b5, b13, b19, b20, hlL, hlR, e1, hwb, hrl]
   ·clear b2 b3 b5 b13 b19 b20;rintro mz s2 H2 ⟨j, hj, rfl, rfl, b2, b3, b5, b13, b19, b20, b21⟩;have hJl : (rowA ((relE F r).take j)).length = j := by rw [za0, List.length_take]; omega
    rcases Nat.lt_or_ge j I with hjl|hge
    ·have eE := zg0 r j (by omega);have hft := hfit j hjl;have hXj : (relE F r).getD j (0, 0) = if (r.getD j (0, 0)).1 = -1 then r.getD j (0, 0) else (F.getD (r.getD j (0, 0)).1.toNat 0, (r.getD j (0, 0)).2) := by
      have : r.getD j (0, 0) = r[j]'(by omega) := by simp [hwb, hjl]
      rw [this, relE, List.getD_eq_getElem?_getD, List.getElem?_map, List.getElem?_eq_getElem (by omega)]; rfl
     have hpr : rowA ((relE F r).take j) ++ [eA ((relE F r).getD j (0, 0))] = rowA ((relE F r).take (j + 1)) := by rw [qay9 (relE F r) (0, 0) j (by omega), zav9]
     generalize r.getD j (0, 0) = e at *;obtain ⟨x1, x2⟩ := e;dsimp only at hft hXj;simp only [eA] at eE;obtain ⟨RJ2, hRJ2⟩ : ∃ x, x = rowA ((relE F r).take (j + 1)) := ⟨_, rfl⟩;have hiJ : ∀ p, idsE p RJ2 = true := fun p => by rw [hRJ2]; exact wj0 _ _
     rw [← hRJ2] at hpr;generalize rowA ((relE F r).take j) = RJ at *;by_cases hx : x1 = -1
     ·rw [if_pos hx] at hXj;rw [hXj] at hpr;simp only [eA] at hpr;repeat' (first|(first|refine nav ?_|(refine g0_ ?_; first|refine dN (p := [0, 1, 1, 1, 1, 1, 1, 1]) [(188, 3), (189, 188), (190, 3), (191, 190)] [(195, none)] [(9, 10)] ?_|refine dN (p := [1, 1, 0, 0, 1, 0, 0, 1, 0, 0, 1, 0, 0, 1, 0, 1, 1, 1, 1, 1, 1, 1, 1]) [(226, 19), (227, 226), (230, 228), (231, 230)] [(242, some 239)] [] ?_|refine goD ?_))|(with_reducible first|refine gG ?_ ?_|refine ⟨fun h => ?_, fun h => ?_⟩ <;> try omega|refine andG ?_)|simp (disch := try exact qa0) only [push_cast, simprocAttr, b2, b3, b5, b13, b19, b20, b21, hlL, hlR, e1, eF, hrl, hJl, eE, hx, hws, hwl, List.set_set])
      rw [← hx, hpr];refine va0 (I - (j + 1)) 9 (by omega) (by first|exact wb0|fail) (by omega) (by simp) (by simp [Blk.below, idsE, idsL, AV.ids, hidA, hidR, hidF, hidT, hidP, hWi, hiJ, zao9]) ⟨j + 1, by omega, rfl, by simp only [List.take, hRJ2], ?_⟩;simp (disch := try exact qa0) only [push_cast, simprocAttr, b2, b3, b5, b13, b19, b20, b21, qe0, AV.ids, idsL]
     ·rw [if_neg hx] at hXj;rw [hXj] at hpr;simp only [eA] at hpr;have h0 := hft.resolve_left hx;have eG := wc0 F x1.toNat (by omega);generalize F.getD x1.toNat 0 = y1 at *;repeat' (first|(first|refine nav ?_|(refine g0_ ?_; first|refine dN (p := [0, 1, 1, 1, 1, 1, 1, 1]) [(188, 3), (189, 188), (190, 3), (191, 190)] [(195, none)] [(9, 10)] ?_|refine dN (p := [1, 1, 0, 0, 1, 0, 0, 1, 0, 0, 1, 0, 0, 1, 0, 1, 1, 1, 1, 1, 1, 1, 1]) [(226, 19), (227, 226), (230, 228), (231, 230)] [(242, some 239)] [] ?_|refine goD ?_))|(with_reducible first|refine gG ?_ ?_|refine ⟨fun h => ?_, fun h => ?_⟩ <;> try omega|refine andG ?_)|simp (disch := try exact qa0) only [push_cast, simprocAttr, b2, b3, b5, b13, b19, b20, b21, hlL, hlR, e1, eF, hrl, hJl, eE, hx, hws, hwl, eG, List.set_set])
      rw [hpr];refine va0 (I - (j + 1)) 9 (by omega) (by first|exact wb0|fail) (by omega) (by simp) (by simp [Blk.below, idsE, idsL, AV.ids, hidA, hidR, hidF, hidT, hidP, hWi, hiJ, zao9]) ⟨j + 1, by omega, rfl, by simp only [List.take, hRJ2], ?_⟩;simp (disch := try exact qa0) only [push_cast, simprocAttr, b2, b3, b5, b13, b19, b20, b21, qe0, AV.ids, idsL]
    ·obtain rfl : j = I := by omega
     rw [List.take_of_length_le (by omega)] at hJl ⊢;have hidX : ∀ p, idsE p (rowA (relE F r)) = true := fun p => wj0 _ _;generalize rowA (relE F r) = RX at *;repeat' (first|(first|refine nav ?_|(refine g0_ ?_; first|refine dN (p := [0, 1, 1, 1, 1, 1, 1, 1]) [(188, 3), (189, 188), (190, 3), (191, 190)] [(195, none)] [(9, 10)] ?_|refine dN (p := [1, 1, 0, 0, 1, 0, 0, 1, 0, 0, 1, 0, 0, 1, 0, 1, 1, 1, 1, 1, 1, 1, 1]) [(226, 19), (227, 226), (230, 228), (231, 230)] [(242, some 239)] [] ?_|refine goD ?_))|(with_reducible first|refine gG ?_ ?_|refine ⟨fun h => ?_, fun h => ?_⟩ <;> try omega|refine andG ?_)|simp (disch := try exact qa0) only [push_cast, simprocAttr, b2, b3, b5, b13, b19, b20, b21, hrl, hJl, hlL, eF, hWl])
     have htX : RX.take j = RX := List.take_of_length_le (by omega);refine vg0 (lb.length - (t + 1)) 8 (j := 8) rfl (by omega) (by first|exact wb0|fail) (by omega) (by simp [frzH]) (by simp [frzH, frzB, frz, qi0, List.map_set, Blk.below, idsE, idsL, AV.ids, zd0, hidA, hidR, hidF, hidT, hidP, hWi, hJl, htX, hidX, zao9]) ⟨t + 1, by omega, rfl, by rw [← hW2, hWs]; simp [frzH, frzB, frz, qi0, List.map_set, Blk.below, idsE, idsL, AV.ids, zd0, hidA, hidR, hidF, hidT, hidP, hWi, hJl, htX, hidX], ?_⟩;simp (disch := try exact qa0) only [push_cast, simprocAttr, b2, b3, b5, b13, b19, b20, qe0, AV.ids, idsL, frz]
  ·obtain rfl : t = lb.length := by omega
   have hal : alW F R none lb.length = xb0 (capR none (zh0 F R)) := by rw [← hRl]; exact zck9 (by omega) hF1 (fun x hx => by rw [hRl]; exact hF2 x hx)
   rw [hal] at hWl ⊢;have hcl : (capR none (zh0 F R)).length = lb.length := by rw [← wa0, hWl]
   have htW : (xb0 (capR none (zh0 F R))).take lb.length = xb0 (capR none (zh0 F R)) := List.take_of_length_le (by omega);have htF : (ints F).take lb.length = ints F := List.take_of_length_le (by omega);repeat' (first|(first|refine nav ?_|(refine g0_ ?_; first|refine dN (p := [0, 1, 1, 1, 1, 1, 1, 1]) [(188, 3), (189, 188), (190, 3), (191, 190)] [(195, none)] [(9, 10)] ?_|refine dN (p := [1, 1, 0, 0, 1, 0, 0, 1, 0, 0, 1, 0, 0, 1, 0, 1, 1, 1, 1, 1, 1, 1, 1]) [(226, 19), (227, 226), (230, 228), (231, 230)] [(242, some 239)] [] ?_|refine goD ?_))|(with_reducible first|refine gG ?_ ?_|refine ⟨fun h => ?_, fun h => ?_⟩ <;> try omega|refine andG ?_)|simp (disch := try exact qa0) only [push_cast, simprocAttr, b2, b3, b5, b13, b19, b20, hlL, hlR, hWl, htW, htF, hcl])
def ppA (P : PP) : List (List AV) := P.map fun x => [.int .i64 x.1, .int .i64 x.2]
theorem xay9 (P : PP) : (ppA P).length = P.length := by simp [ppA]
theorem xcn9 {P : PP} {k : Nat} (h : k < P.length) : (ppA P).getD k [] = [.int .i64 (P.getD k (0, 0)).1, .int .i64 (P.getD k (0, 0)).2] := by simp [ppA, h]
theorem kbB9 (P : PP) (s t : Int) : ppA P ++ [[.int .i64 s, .int .i64 t]] = ppA (P ++ [(s, t)]) := by simp [ppA]
theorem kdg9 (p : Nat → Bool) (P : PP) : idsE p (ppA P) = true := zn0 _ _ fun x => by simp [idsL, AV.ids]
def frB (P : PP) (s t : Int) (n : Nat) : Bool := (P.take n).all fun x => decide (x.1 ≠ s) && decide (x.2 ≠ t)
theorem vaH9 {P : PP} {k : Nat} (h : k < P.length) : P.take (k + 1) = P.take k ++ [P.getD k (0, 0)] := by
 rw [List.take_succ_eq_append_getElem h]; simp [h]
theorem vcJ9 (P : PP) (s t : Int) : frB P s t 0 = true := rfl
theorem kcJ9 {P : PP} {s t : Int} {n : Nat} (h : n < P.length) : frB P s t (n + 1) = (frB P s t n && (decide ((P.getD n (0, 0)).1 ≠ s) && decide ((P.getD n (0, 0)).2 ≠ t))) := by
 rw [frB, vaH9 h, List.all_append, List.all_cons, List.all_nil, Bool.and_true]; rfl
theorem qdh9 (P : PP) (s t : Int) : qah9 P s t = (decide (s ≠ -1) && (decide (t ≠ -1) && frB P s t P.length)) := by
 rw [frB, List.take_length, qah9, Bool.and_assoc]
def mtX (nb : Nat) (t : Nat) (x : Int × Int) : Bool := decide (x.2 = (t : Nat)) && decide (x.1 < (nb : Nat))
def mtB (nb : Nat) (P : PP) (t n : Nat) : Bool := (P.take n).any (mtX nb t)
def mtV (nb : Nat) (P : PP) (t n : Nat) : Int := if mtB nb P t n = true then num1 nb P t else -1
def mtT (nb : Nat) (P : PP) (t n : Nat) : List Bool := if mtB nb P t n = true then tkN nb P (t + 1) else tkN nb P t
section
variable {na nb : Nat} {P : PP} {t n : Nat}
theorem qbC9 (h : n < P.length) : mtB nb P t (n + 1) = (mtB nb P t n || mtX nb t (P.getD n (0, 0))) := by
 rw [mtB, vaH9 h, List.any_append, List.any_cons, List.any_nil, Bool.or_false]; rfl
theorem mt_zero : mtV nb P t 0 = -1 ∧ mtT nb P t 0 = tkN nb P t := ⟨rfl, rfl⟩
theorem wcn9 : (mtT nb P t n).length = nb := by
 unfold mtT; split <;> exact kbr9 _ _ _
theorem wdu9 (hok : OkP na nb P) (h : n < P.length) (hx : mtX nb t (P.getD n (0, 0)) = true) : mtV nb P t (n + 1) = (P.getD n (0, 0)).1 ∧ mtT nb P t (n + 1) = (mtT nb P t n).set (P.getD n (0, 0)).1.toNat true ∧ 0 ≤ (P.getD n (0, 0)).1 ∧ (P.getD n (0, 0)).1 < nb := by
 have hm := zv0 h;have hb := hok.b _ hm;have hn := kD0 hok hm;rw [mtX, Bool.and_eq_true, decide_eq_true_eq, decide_eq_true_eq] at hx;rw [hx.1] at hn;have h1 : num1 nb P t = (P.getD n (0, 0)).1 := by rw [num1, hn, if_neg (by omega)]
 have h2 : mtB nb P t (n + 1) = true := by
  rw [qbC9 h, Bool.or_eq_true];right
  rw [mtX, Bool.and_eq_true, decide_eq_true_eq, decide_eq_true_eq]; exact hx
 have h3 := wcm9 (nb := nb) (P := P) (q := t) (by omega);rw [h1] at h3;refine ⟨by rw [mtV, if_pos h2, h1], ?_, by omega, by omega⟩;rw [mtT, if_pos h2, mtT];split
 ·rw [← h3, List.set_set]
 ·exact h3.symm
theorem zdF9 (h : n < P.length) (hx : mtX nb t (P.getD n (0, 0)) = false) : mtV nb P t (n + 1) = mtV nb P t n ∧ mtT nb P t (n + 1) = mtT nb P t n := by
 have h2 : mtB nb P t (n + 1) = mtB nb P t n := by rw [qbC9 h, hx, Bool.or_false]
 rw [mtV, mtV, mtT, mtT, h2];exact ⟨rfl, rfl⟩
theorem vdu9 (hok : OkP na nb P) : mtV nb P t P.length = num1 nb P t ∧ mtT nb P t P.length = tkN nb P (t + 1) := by
 by_cases hq : mtB nb P t P.length = true
 ·rw [mtV, mtT, if_pos hq, if_pos hq]; exact ⟨rfl, rfl⟩
 ·have h1 : num1 nb P t = -1 := by
   rcases xbA9 hok t with h|h|h
   ·exact h.2
   ·exact h.2
   ·exfalso;have hm := xE0 (P := P) (t := (t : Int)) (by omega);refine hq ?_;rw [mtB, List.take_length, List.any_eq_true];exact ⟨_, hm, by rw [mtX, Bool.and_eq_true, decide_eq_true_eq, decide_eq_true_eq]; exact ⟨rfl, h.1.2⟩⟩
  rw [mtV, mtT, if_neg hq, if_neg hq];exact ⟨h1.symm, zbA9 h1⟩
end
theorem kaH9 : ∀ (l : List Bool) (n : Nat), n < l.idxOf false → l.getD n false = true
 | [], n, h => absurd h (Nat.not_lt_zero _)
 | false :: l, n, h => by rw [List.idxOf_cons] at h; simp at h
 | true :: l, 0, _ => rfl
 | true :: l, n + 1, h => by
  have e : (true :: l).idxOf false = l.idxOf false + 1 := by simp [List.idxOf_cons]
  rw [e] at h;exact kaH9 l n (by omega)
theorem wcO9 : ∀ (l : List Bool), l.idxOf false < l.length → l.getD (l.idxOf false) false = false
 | [], h => absurd h (Nat.not_lt_zero _)
 | false :: l, _ => by simp [List.idxOf_cons]
 | true :: l, h => by
  have e : (true :: l).idxOf false = l.idxOf false + 1 := by simp [List.idxOf_cons]
  rw [e] at h ⊢;exact wcO9 l (by simpa using h)
theorem zdh9 (I O O' : Nat) (la lb : List Row) (c d : Option Nat) (hb : we0 I O' lb = 0) (N0 : List Int) (T0 : List Bool) (hfi : kH0 lb.length T0 [] N0) (hN : N0.length = lb.length) (hT : T0.length = lb.length) (PC : List (List AV)) (hidP : ∀ p, idsE p PC = true) (s : Nat → AV) (q2 : s 2 = .ptr 0 0 0 1) (q3 : s 3 = .ptr 1 0 0 1) (q5 : s 5 = .ptr 2 0 0 1) (q13 : s 13 = .own 4 lb.length lb.length (some lb.length)) (q14 : s 14 = .own 5 lb.length lb.length (some lb.length)) :
  Go false Tryd.prog G0 0 246 (ws0 Tryd.f20) [0, 1, 1, 1, 1, 1, 1] (xal9 false Tryd.prog G0 0 246 (ws0 Tryd.f20) [1, 1, 1, 1, 1, 1, 1] (vaz9 Tryd.prog 246 [ResultVar.tmp 4, ResultVar.cell 5 30] 1 (.tup [.sl 1 (ints (fillL T0 N0)) (some lb.length), .agg [.int .i64 I, .int .i64 O', .sl 1 (xb0 (capR none (zh0 (fillL T0 N0) (edgesOf lb)))) (some lb.length)]]))) True s [.row 3 30 [[.int .i64 I, .int .i64 O, .sl 1 (xb0 la) c]], .row 3 30 [[.int .i64 I, .int .i64 O', .sl 1 (xb0 lb) d]], .row 3 30 [[.int .i64 0, .int .i64 0, .sl 0 [] (some 0)]], .row 2 33 PC, .row 1 3 (ints N0), .row 1 4 (xi0 T0)] := by
 have m2 := xe0 hb;obtain ⟨hF1, hF2, hF3⟩ := waP9 _ _ _ hfi;repeat' (first|(first|refine nav ?_|(refine g0_ ?_; first|refine dN (p := [0, 1, 1, 1, 1, 1, 1, 1]) [(188, 3), (189, 188), (190, 3), (191, 190)] [(195, none)] [(9, 10)] ?_|refine dN (p := [1, 1, 0, 0, 1, 0, 0, 1, 0, 0, 1, 0, 0, 1, 0, 1, 1, 1, 1, 1, 1, 1, 1]) [(226, 19), (227, 226), (230, 228), (231, 230)] [(242, some 239)] [] ?_|refine goD ?_))|(with_reducible first|refine gG ?_ ?_|refine ⟨fun h => ?_, fun h => ?_⟩ <;> try omega|refine andG ?_)|simp (disch := try exact qa0) only [push_cast, simprocAttr, q2, q3, q5, q13, q14])
 refine go_loop rfl (fun mz s' H' => ∃ k : Nat, k ≤ lb.length ∧ mz = lb.length - k ∧ H' = [.row 3 30 [[.int .i64 I, .int .i64 O, .sl 1 (xb0 la) c]], .row 3 30 [[.int .i64 I, .int .i64 O', .sl 1 (xb0 lb) d]], .row 3 30 [[.int .i64 0, .int .i64 0, .sl 0 [] (some 0)]], .row 2 33 PC, .row 1 3 (ints (l2N T0 N0 k)), .row 1 4 (xi0 (t2N T0 N0 k))] ∧ s' 2 = .ptr 0 0 0 1 ∧ s' 3 = .ptr 1 0 0 1 ∧ s' 5 = .ptr 2 0 0 1 ∧ s' 13 = .own 4 lb.length lb.length (some lb.length) ∧ s' 14 = .own 5 lb.length lb.length (some lb.length) ∧ s' 17 = .int .i64 k) (m := lb.length) (by first|exact wb0|fail) (Weak.refl _ _) ⟨0, by omega, by omega, by rw [wbA9, vbA9], ?_⟩ ?_
 ·simp (disch := try exact qa0) only [push_cast, simprocAttr, q2, q3, q5, q13, q14]
 ·clear q2 q3 q5 q13 q14;rintro mz s' H' ⟨k, hk, rfl, rfl, b2, b3, b5, b13, b14, b17⟩;have hll := wai9 (tk := T0) (N := N0) (k := k) (by omega);have htl := qbs9 T0 N0 k;have hlL : (ints (l2N T0 N0 k)).length = lb.length := by rw [zb0, hll, hN]
  have hlT : (xi0 (t2N T0 N0 k)).length = lb.length := by rw [vl0, htl, hT]
  rcases Nat.lt_or_ge k lb.length with hkl|hge
  ·have e1 := wc0 (l2N T0 N0 k) k (by omega);rw [xcO9 (by omega)] at e1;by_cases hs : N0.getD k 0 = -1
   ·obtain ⟨f1, f2⟩ := kbA9 (tk := T0) (N := N0) (k := k) (by omega) hs;have hlt := vbg9 hfi (k := k) (by omega) hs;have hbf := kaH9 (t2N T0 N0 k);have hat := wcO9 (t2N T0 N0 k) (by omega);rw [hs] at e1;have hgB := fun n (h : n < (t2N T0 N0 k).length) => ql0 (t2N T0 N0 k) n h;rw [htl, hT] at hgB;generalize hj : (t2N T0 N0 k).idxOf false = j at *;have eN := wc0 (l2N T0 N0 (k + 1)) k (by rw [wai9 (by omega)]; omega);have hk1 : (l2N T0 N0 (k + 1)).getD k 0 = j := by
     rw [← f1, List.getD_eq_getElem?_getD, List.getElem?_set_self (by omega)]; rfl
    rw [hk1] at eN;have hlN2 : (ints (l2N T0 N0 (k + 1))).length = lb.length := by rw [zb0, wai9 (by omega), hN]
    have hlT2 : (xi0 (t2N T0 N0 (k + 1))).length = lb.length := by rw [vl0, qbs9, hT]
    generalize hN2e : l2N T0 N0 (k + 1) = N2 at *;generalize hT2e : t2N T0 N0 (k + 1) = T2 at *;generalize l2N T0 N0 k = N1 at *;generalize t2N T0 N0 k = T1 at *;repeat' (first|(first|refine nav ?_|(refine g0_ ?_; first|refine dN (p := [0, 1, 1, 1, 1, 1, 1, 1]) [(188, 3), (189, 188), (190, 3), (191, 190)] [(195, none)] [(9, 10)] ?_|refine dN (p := [1, 1, 0, 0, 1, 0, 0, 1, 0, 0, 1, 0, 0, 1, 0, 1, 1, 1, 1, 1, 1, 1, 1]) [(226, 19), (227, 226), (230, 228), (231, 230)] [(242, some 239)] [] ?_|refine goD ?_))|(with_reducible first|refine gG ?_ ?_|refine ⟨fun h => ?_, fun h => ?_⟩ <;> try omega|refine andG ?_)|simp (disch := try exact qa0) only [push_cast, simprocAttr, b2, b3, b5, b13, b14, b17, hlL, hlT, e1])
    refine go_loop rfl (fun mz s2 H2 => ∃ n : Nat, n ≤ j + 1 ∧ mz = j + 1 - n ∧ ((n ≤ j ∧ H2 = [.row 3 30 [[.int .i64 I, .int .i64 O, .sl 1 (xb0 la) c]], .row 3 30 [[.int .i64 I, .int .i64 O', .sl 1 (xb0 lb) d]], .row 3 30 [[.int .i64 0, .int .i64 0, .sl 0 [] (some 0)]], .row 2 33 PC, .row 1 3 (ints N1), .row 1 4 (xi0 T1)]) ∨ (n = j + 1 ∧ H2 = [.row 3 30 [[.int .i64 I, .int .i64 O, .sl 1 (xb0 la) c]], .row 3 30 [[.int .i64 I, .int .i64 O', .sl 1 (xb0 lb) d]], .row 3 30 [[.int .i64 0, .int .i64 0, .sl 0 [] (some 0)]], .row 2 33 PC, .row 1 3 (ints N2), .row 1 4 (xi0 T2)])) ∧ s2 2 = .ptr 0 0 0 1 ∧ s2 3 = .ptr 1 0 0 1 ∧ s2 5 = .ptr 2 0 0 1 ∧ s2 13 = .own 4 lb.length lb.length (some lb.length) ∧ s2 14 = .own 5 lb.length lb.length (some lb.length) ∧ s2 17 = .int .i64 k ∧ s2 18 = .int .i64 n) (m := j + 1) (by first|exact wb0|fail) (Weak.refl _ _) ⟨0, by omega, by omega, .inl ⟨by omega, rfl⟩, ?_⟩ ?_
    ·simp (disch := try exact qa0) only [push_cast, simprocAttr, b2, b3, b5, b13, b14, b17, hlL, hlT, e1]
    ·clear b2 b3 b5 b13 b14 b17;rintro mz s2 H2 ⟨n, hn, rfl, hst, b2, b3, b5, b13, b14, b17, b18⟩;rcases hst with ⟨hnj, rfl⟩|⟨rfl, rfl⟩
     ·have eB := hgB n (by omega);have hnl : n < lb.length := by omega
      rcases Nat.lt_or_ge n j with hlt2|hge2
      ·rw [hbf n hlt2] at eB;repeat' (first|(first|refine nav ?_|(refine g0_ ?_; first|refine dN (p := [0, 1, 1, 1, 1, 1, 1, 1]) [(188, 3), (189, 188), (190, 3), (191, 190)] [(195, none)] [(9, 10)] ?_|refine dN (p := [1, 1, 0, 0, 1, 0, 0, 1, 0, 0, 1, 0, 0, 1, 0, 1, 1, 1, 1, 1, 1, 1, 1]) [(226, 19), (227, 226), (230, 228), (231, 230)] [(242, some 239)] [] ?_|refine goD ?_))|(with_reducible first|refine gG ?_ ?_|refine ⟨fun h => ?_, fun h => ?_⟩ <;> try omega|refine andG ?_)|simp (disch := try exact qa0) only [push_cast, simprocAttr, b2, b3, b5, b13, b14, b17, b18, hlL, hlT, e1, eB, hnl])
       refine qb0 (j + 1 - (n + 1)) (by omega) (by first|exact wb0|fail) ⟨n + 1, by omega, rfl, .inl ⟨by omega, rfl⟩, ?_⟩;simp (disch := try exact qa0) only [push_cast, simprocAttr, b2, b3, b5, b13, b14, b17, b18, hlL, hlT, e1, eB, hnl]
      ·obtain rfl : n = j := by omega
       rw [hat] at eB;repeat' (first|(first|refine nav ?_|(refine g0_ ?_; first|refine dN (p := [0, 1, 1, 1, 1, 1, 1, 1]) [(188, 3), (189, 188), (190, 3), (191, 190)] [(195, none)] [(9, 10)] ?_|refine dN (p := [1, 1, 0, 0, 1, 0, 0, 1, 0, 0, 1, 0, 0, 1, 0, 1, 1, 1, 1, 1, 1, 1, 1]) [(226, 19), (227, 226), (230, 228), (231, 230)] [(242, some 239)] [] ?_|refine goD ?_))|(with_reducible first|refine gG ?_ ?_|refine ⟨fun h => ?_, fun h => ?_⟩ <;> try omega|refine andG ?_)|simp (disch := try exact qa0) only [push_cast, simprocAttr, b2, b3, b5, b13, b14, b17, b18, hlL, hlT, e1, eB, hnl, vk0, qk0, f1, f2])
       refine qb0 (n + 1 - (n + 1)) (by omega) (by first|exact wb0|fail) ⟨n + 1, by omega, rfl, .inr ⟨rfl, rfl⟩, ?_⟩;simp (disch := try exact qa0) only [push_cast, simprocAttr, b2, b3, b5, b13, b14, b17, b18, hlL, hlT, e1, eB, hnl, vk0, qk0, f1, f2]
     ·have hng : ¬ (j : Int) < 0 := by omega
      by_cases hq : j + 1 < lb.length
      ·skip
       repeat' (first|(first|refine nav ?_|(refine g0_ ?_; first|refine dN (p := [0, 1, 1, 1, 1, 1, 1, 1]) [(188, 3), (189, 188), (190, 3), (191, 190)] [(195, none)] [(9, 10)] ?_|refine dN (p := [1, 1, 0, 0, 1, 0, 0, 1, 0, 0, 1, 0, 0, 1, 0, 1, 1, 1, 1, 1, 1, 1, 1]) [(226, 19), (227, 226), (230, 228), (231, 230)] [(242, some 239)] [] ?_|refine goD ?_))|(with_reducible first|refine gG ?_ ?_|refine ⟨fun h => ?_, fun h => ?_⟩ <;> try omega|refine andG ?_)|simp (disch := try exact qa0) only [push_cast, simprocAttr, b2, b3, b5, b13, b14, b17, b18, hlN2, hlT2, eN, hq, hng])
       refine qb0 (lb.length - (k + 1)) (by omega) (by first|exact wb0|fail) ⟨k + 1, by omega, rfl, by rw [hN2e, hT2e], ?_⟩;simp (disch := try exact qa0) only [push_cast, simprocAttr, b2, b3, b5, b13, b14, b17, b18, hlN2, hlT2, eN, hq, hng]
      ·skip
       repeat' (first|(first|refine nav ?_|(refine g0_ ?_; first|refine dN (p := [0, 1, 1, 1, 1, 1, 1, 1]) [(188, 3), (189, 188), (190, 3), (191, 190)] [(195, none)] [(9, 10)] ?_|refine dN (p := [1, 1, 0, 0, 1, 0, 0, 1, 0, 0, 1, 0, 0, 1, 0, 1, 1, 1, 1, 1, 1, 1, 1]) [(226, 19), (227, 226), (230, 228), (231, 230)] [(242, some 239)] [] ?_|refine goD ?_))|(with_reducible first|refine gG ?_ ?_|refine ⟨fun h => ?_, fun h => ?_⟩ <;> try omega|refine andG ?_)|simp (disch := try exact qa0) only [push_cast, simprocAttr, b2, b3, b5, b13, b14, b17, b18, hlN2, hlT2, eN, hq, hng])
       refine qb0 (lb.length - (k + 1)) (by omega) (by first|exact wb0|fail) ⟨k + 1, by omega, rfl, by rw [hN2e, hT2e], ?_⟩;simp (disch := try exact qa0) only [push_cast, simprocAttr, b2, b3, b5, b13, b14, b17, b18, hlN2, hlT2, eN, hq, hng]
   ·obtain ⟨f1, f2⟩ := qbB9 (tk := T0) (N := N0) (k := k) (by omega) hs;have hsb := (hfi.b _ (vt0 (show k < N0.length by omega))).resolve_left hs;generalize N0.getD k 0 = x at *;have hng : ¬ x < 0 := by omega
    have h0l : 0 < lb.length := by omega
    repeat' (first|(first|refine nav ?_|(refine g0_ ?_; first|refine dN (p := [0, 1, 1, 1, 1, 1, 1, 1]) [(188, 3), (189, 188), (190, 3), (191, 190)] [(195, none)] [(9, 10)] ?_|refine dN (p := [1, 1, 0, 0, 1, 0, 0, 1, 0, 0, 1, 0, 0, 1, 0, 1, 1, 1, 1, 1, 1, 1, 1]) [(226, 19), (227, 226), (230, 228), (231, 230)] [(242, some 239)] [] ?_|refine goD ?_|refine zau9 1 rfl ?_))|(with_reducible first|refine gG ?_ ?_|refine ⟨fun h => ?_, fun h => ?_⟩ <;> try omega|refine andG ?_)|simp (disch := try exact qa0) only [push_cast, simprocAttr, b2, b3, b5, b13, b14, b17, hlL, hlT, e1, hng, h0l])
    refine qb0 (lb.length - (k + 1)) (by omega) (by first|exact wb0|fail) ⟨k + 1, by omega, rfl, by rw [← f1, ← f2], ?_⟩;simp (disch := try exact qa0) only [push_cast, simprocAttr, b2, b3, b5, b13, b14, b17, hlL, hlT, e1, hng, h0l]
  ·obtain rfl : k = lb.length := by omega
   have hl2a : l2N T0 N0 lb.length = fillL T0 N0 := by rw [← hN]; exact vcm9 _ _
   rw [hl2a] at hlL ⊢;repeat' (first|(first|(with_reducible refine wx0 (p := [0, 1, 1, 1, 1, 1, 1, 1]) ?_)|refine nav ?_|(refine g0_ ?_; first|refine dN (p := [0, 1, 1, 1, 1, 1, 1, 1]) [(188, 3), (189, 188), (190, 3), (191, 190)] [(195, none)] [(9, 10)] ?_|refine dN (p := [1, 1, 0, 0, 1, 0, 0, 1, 0, 0, 1, 0, 0, 1, 0, 1, 1, 1, 1, 1, 1, 1, 1]) [(226, 19), (227, 226), (230, 228), (231, 230)] [(242, some 239)] [] ?_|refine goD ?_))|(with_reducible first|refine gG ?_ ?_|refine ⟨fun h => ?_, fun h => ?_⟩ <;> try omega|refine andG ?_)|simp (disch := try exact qa0) only [push_cast, simprocAttr, b2, b3, b5, b13, b14, b17, hlL, hlT])
   refine Halt.mk (zo0 (by first|exact wb0|fail) (Weak.refl _ _) (ref20_4 I O O' la lb c d hb _ (by simpa using hF1) hF2 (by omega) _ _ hidP (fun p => xr0 _ _) _ ?_ ?_ ?_ ?_));all_goals
    simp (disch := try exact qa0) only [push_cast, simprocAttr, b2, b3, b5, b13, b14, b17, hlL, hlT]
end Go.Proofs
