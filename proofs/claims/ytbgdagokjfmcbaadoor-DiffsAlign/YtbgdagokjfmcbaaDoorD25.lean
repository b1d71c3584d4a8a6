import Derived.Test.YtbgdagokjfmcbaaDoorD13
import Derived.Test.YtbgdagokjfmcbaaDoorV50
import Derived.Test.YtbgdagokjfmcbaaDoorD17
namespace Go.Proofs
open Go Go.V
set_option linter.unusedVariables false
set_option linter.unusedSimpArgs false
set_option maxHeartbeats 0
def u16s (es : List Nat) : List (List AV) := es.map fun (e : Nat) => [AV.int .u16 (e : Int)]
theorem vb0 (es : List Nat) : (u16s es).length = es.length := by simp [u16s]
theorem kce9 (es : List Nat) (k : Nat) (h : k < es.length) : (u16s es).getD k [] = [.int .u16 (es.getD k 0 : Nat)] := by simp [u16s, h]
theorem xaw9 (p : Nat → Bool) (es : List Nat) : idsE p (u16s es) = true := zn0 _ _ fun x => by simp [idsL, AV.ids]
theorem qcD9 (p : Nat → Bool) (es : List Nat) : ((u16s es).all fun e => e.all fun x => AV.ids p x) = true := xo0 (xaw9 p es)
attribute [simp] xaw9
attribute [push_cast] qcD9 vb0 xaw9
structure MD where
 st : Nat
 inp : Nat
 ou : Nat
 pa : Bool
 es : List Nat
def MD.n (x : MD) : Nat := 1 + x.st % 6
def MD.I (x : MD) : Nat := 1 + x.inp % 3
def MD.O (x : MD) : Nat := 1 + x.ou % 3
def edM (pa : Bool) (n O v : Nat) : Edg := if pa = true ∧ v % 4 = 3 then (-1, -1) else (((v / 4 % n : Nat) : Int), ((v / 4 / n % O : Nat) : Int))
def MD.row (x : MD) (s k : Nat) : List Edg := (List.range k).map fun i => edM x.pa x.n x.O (x.es.getD (s * x.I + i) 0)
def MD.rows (x : MD) (k : Nat) : List Row := (List.range k).map fun s => (x.row s x.I, none)
structure MD.Ok (x : MD) : Prop where
 st : x.st < 256
 inp : x.inp < 256
 ou : x.ou < 256
 es : ∀ e ∈ x.es, e < 65536
def mdC (x : MD) (z : Nat) (c : Option Nat) : List AV := [.int .u8 x.st, .int .u8 x.inp, .int .u8 x.ou, .bool x.pa, .sl z (u16s x.es) c]
theorem wq0 (a m : Nat) : (a : Int).tmod (m : Int) = ((a % m : Nat) : Int) := rfl
theorem wan9 (a m : Nat) : (a : Int).tdiv (m : Int) = ((a / m : Nat) : Int) := rfl
theorem wbp9 (a m : Nat) (hm : m < 1000000) (h0 : 0 < m) : IntKind.i64.wrap (1 + IntKind.i64.wrap ((a : Int).tmod (m : Int))) = ((1 + a % m : Nat) : Int) := by
 have := Nat.mod_lt a h0;rw [wq0];generalize a % m = r at *;rw [qh0 (r : Int) (by omega) (by omega), qh0 _ (by omega) (by omega)];omega
theorem MD.row_succ (x : MD) (s k : Nat) : x.row s (k + 1) = x.row s k ++ [edM x.pa x.n x.O (x.es.getD (s * x.I + k) 0)] := by
 rw [MD.row, List.range_succ, List.map_append]; rfl
theorem MD.rows_succ (x : MD) (k : Nat) : x.rows (k + 1) = x.rows k ++ [(x.row k x.I, none)] := by
 rw [MD.rows, List.range_succ, List.map_append]; rfl
theorem MD.row_len (x : MD) (s k : Nat) : (x.row s k).length = k := by simp [MD.row]
theorem MD.rows_len (x : MD) (k : Nat) : (x.rows k).length = k := by simp [MD.rows]
theorem qbd9 {α : Type} {p : α → Prop} {l : List α} {d : α} (h : ∀ x ∈ l, p x) (hd : p d) (k : Nat) : p (l.getD k d) := by
 rw [List.getD_eq_getElem?_getD];cases hk : l[k]? with
 | none => exact hd
 | some x => exact h x (List.mem_of_getElem? hk)
set_option maxRecDepth 100000 in
theorem wdr9 (x : MD) (z : Nat) (c : Option Nat) (hx : x.Ok) (hz : x.es = [] ∨ z = 1) : PC Tryd.prog G0 15 [.agg (mdC x z c)] (mA x.I x.O (x.rows x.n) none) := by
 obtain ⟨h1, h2, h3, h4⟩ := hx;have fn : IntKind.i64.wrap (1 + IntKind.i64.wrap ((x.st : Int).tmod 6)) = (x.n : Int) := wbp9 x.st 6 (by omega) (by omega);have fI : IntKind.i64.wrap (1 + IntKind.i64.wrap ((x.inp : Int).tmod 3)) = (x.I : Int) := wbp9 x.inp 3 (by omega) (by omega);have fO : IntKind.i64.wrap (1 + IntKind.i64.wrap ((x.ou : Int).tmod 3)) = (x.O : Int) := wbp9 x.ou 3 (by omega) (by omega);have bn : 1 ≤ x.n ∧ x.n ≤ 6 := by unfold MD.n; omega
 have bI : 1 ≤ x.I ∧ x.I ≤ 3 := by unfold MD.I; omega
 have bO : 1 ≤ x.O ∧ x.O ≤ 3 := by unfold MD.O; omega
 have qn : (x.n : Int) ≠ 0 := by omega
 have qO : (x.O : Int) ≠ 0 := by omega
 unfold mdC mA;refine wf0 1 87 [.cell 2 30] Tryd.func15 rfl rfl rfl (by simp) ?_;intro s ⟨a0, hz⟩;clear hz;repeat' (first|refine nv ?_|(with_reducible first|refine gG ?_ ?_|refine ⟨fun h => ?_, fun h => ?_⟩ <;> try omega|refine andG ?_)|simp (disch := try exact qa0) only [push_cast, simprocAttr, a0, fn, fI, fO])
 refine go_loop rfl (fun mz s' H' => ∃ s : Nat, s ≤ x.n ∧ mz = x.n - s ∧ H' = [.row 5 24 [[.int .u8 x.st, .int .u8 x.inp, .int .u8 x.ou, .bool x.pa, .sl z (u16s x.es) c]], .row 3 30 [[.int .i64 0, .int .i64 0, .sl 0 [] (some 0)]], .row 3 30 [[.int .i64 x.I, .int .i64 x.O, .own 3 s s none]], .row 1 97 (xb0 (x.rows s))] ∧ s' 1 = .ptr 0 0 0 1 ∧ s' 2 = .ptr 1 0 0 1 ∧ s' 3 = .int .i64 x.n ∧ s' 4 = .ptr 2 0 0 1 ∧ s' 5 = .int .i64 s) (m := x.n) (by first|exact wb0|fail) (vi0 (b := 2) (i := 0) (j := 2) (sz := 1) (ty := 97) rfl rfl rfl) ⟨0, by omega, by omega, (by first|rfl|simp [MD.rows, xb0, List.range_zero, List.map_nil]), ?_⟩ ?_
 ·simp (disch := try exact qa0) only [push_cast, simprocAttr, a0, fn, fI, fO]
 ·rintro mz s' H' ⟨s, hs, rfl, rfl, b1, b2, b3, b4, b5⟩;have e0 : (xb0 (x.rows s)).length = s := by simp [xb0, MD.rows]
  rcases Nat.lt_or_ge s x.n with hlt|hge
  ·have e1 := x.rows_succ s;repeat' (first|refine nv ?_|(with_reducible first|refine gG ?_ ?_|refine ⟨fun h => ?_, fun h => ?_⟩ <;> try omega|refine andG ?_)|simp (disch := try exact qa0) only [push_cast, simprocAttr, b1, b2, b3, b4, b5, e0])
   refine zo0 (by first|exact wb0|fail) (kv0 (t := 6) (sz := 2) (ty := 91) rfl) ?_;generalize x.rows s = rs at *;obtain ⟨b, hb⟩ : ∃ b : Nat, b = s * x.I := ⟨_, rfl⟩;have hb2 : b ≤ 18 := by
    rw [hb]; exact Nat.le_trans (Nat.mul_le_mul (show s ≤ 6 by omega) bI.2) (by omega)
   have fb : (s : Int) * (x.I : Int) = (b : Int) := by rw [hb]; exact (Int.natCast_mul s x.I).symm
   refine go_loop rfl (fun mz s' H' => ∃ i : Nat, i ≤ x.I ∧ mz = x.I - i ∧ H' = [.row 5 24 [[.int .u8 x.st, .int .u8 x.inp, .int .u8 x.ou, .bool x.pa, .sl z (u16s x.es) c]], .row 3 30 [[.int .i64 0, .int .i64 0, .sl 0 [] (some 0)]], .row 3 30 [[.int .i64 x.I, .int .i64 x.O, .own 3 s s none]], .row 1 97 (xb0 rs), .row 2 91 (rowA (x.row s i))] ∧ s' 1 = .ptr 0 0 0 1 ∧ s' 2 = .ptr 1 0 0 1 ∧ s' 3 = .int .i64 x.n ∧ s' 4 = .ptr 2 0 0 1 ∧ s' 5 = .int .i64 s ∧ s' 6 = .own 4 i i none ∧ s' 7 = .int .i64 i) (m := x.I) (by first|exact wb0|fail) (Weak.refl _ _) ⟨0, by omega, by omega, (by first|rfl|simp [MD.row, rowA, List.range_zero, List.map_nil]), ?_⟩ ?_
   ·simp (disch := try exact qa0) only [push_cast, simprocAttr, b1, b2, b3, b4, b5, e0]
   ·rintro mz s' H' ⟨i, hi, rfl, rfl, b1, b2, b3, b4, b5, b6, b7⟩;have e2 : (rowA (x.row s i)).length = i := by rw [za0, MD.row_len]
    rcases Nat.lt_or_ge i x.I with hlt2|hge2
    ·have e3 := x.row_succ s i;rw [← hb] at e3;have e4 := fun h => kce9 x.es (b + i) h;have hv : x.es.getD (b + i) 0 < 65536 := qbd9 (p := fun e => e < 65536) h4 (by omega) _;have hv0 : x.es.length ≤ b + i → x.es.getD (b + i) 0 = 0 := fun h => by simp [h]
     generalize x.row s i = ro at *;generalize x.es.getD (b + i) 0 = v at *;obtain ⟨m, hm⟩ : ∃ m : Nat, m = v % 4 := ⟨_, rfl⟩;obtain ⟨p, hp⟩ : ∃ p : Nat, p = v / 4 % x.n := ⟨_, rfl⟩;obtain ⟨q, hq⟩ : ∃ q : Nat, q = v / 4 / x.n % x.O := ⟨_, rfl⟩;have hed : edM x.pa x.n x.O v = if x.pa = true ∧ m = 3 then (-1, -1) else ((p : Int), (q : Int)) := by rw [edM, hm, hp, hq]
     rw [hed] at e3;have f1 : (v : Int).tmod 4 = (m : Int) := by rw [hm]; exact wq0 v 4
     have f2 : (v : Int).tdiv 4 = ((v / 4 : Nat) : Int) := wan9 v 4;have b4' : v / 4 ≤ 65536 := by omega
     generalize v / 4 = v4 at *;have f3 : (v4 : Int).tmod x.n = (p : Int) := by rw [hp]; exact wq0 _ _
     have f4 : (v4 : Int).tdiv x.n = ((v4 / x.n : Nat) : Int) := wan9 _ _;have b5' : v4 / x.n ≤ 65536 := Nat.le_trans (Nat.div_le_self _ _) b4';generalize v4 / x.n = v5 at *;have f5 : (v5 : Int).tmod x.O = (q : Int) := by rw [hq]; exact wq0 _ _
     have fi : ((b : Int) + i).toNat = b + i := by omega
     rcases Nat.lt_or_ge (b + i) x.es.length with hk|hk
     ·have e4 := e4 hk;obtain rfl := hz.resolve_left (by intro h; rw [h] at hk; simp at hk);cases hpa : x.pa with
      | false =>
       rw [hpa] at e3;repeat' (first|refine nv ?_|(with_reducible first|refine gG ?_ ?_|refine ⟨fun h => ?_, fun h => ?_⟩ <;> try omega|refine andG ?_)|simp (disch := try exact qa0) only [push_cast, simprocAttr, b1, b2, b3, b4, b5, b6, b7, e2, fb, fi, f1, f2, f3, f4, f5, qn, qO, e4])
       have e3 : x.row s (i + 1) = ro ++ [((p : Int), (q : Int))] := by rw [e3]; simp
       refine qb0 (x.I - (i + 1)) (by omega) (by first|exact wb0|fail) ⟨i + 1, by omega, rfl, by rw [e3]; simp [rowA, eA], ?_⟩;simp (disch := try exact qa0) only [push_cast, simprocAttr, b1, b2, b3, b4, b5, b6, b7, e2, fb, fi, f1, f2, f3, f4, f5, qn, qO, e4]
      | true =>
       rw [hpa] at e3;repeat' (first|refine nv ?_|(with_reducible first|refine gG ?_ ?_|refine ⟨fun h => ?_, fun h => ?_⟩ <;> try omega|refine andG ?_)|simp (disch := try exact qa0) only [push_cast, simprocAttr, b1, b2, b3, b4, b5, b6, b7, e2, fb, fi, f1, f2, f3, f4, f5, qn, qO, e4])
       ·have e3 : x.row s (i + 1) = ro ++ [(-1, -1)] := by rw [e3, if_pos ⟨rfl, by omega⟩]
        refine qb0 (x.I - (i + 1)) (by omega) (by first|exact wb0|fail) ⟨i + 1, by omega, rfl, by rw [e3]; simp [rowA, eA], ?_⟩;simp (disch := try exact qa0) only [push_cast, simprocAttr, b1, b2, b3, b4, b5, b6, b7, e2, fb, fi, f1, f2, f3, f4, f5, qn, qO, e4]
       ·have e3 : x.row s (i + 1) = ro ++ [((p : Int), (q : Int))] := by rw [e3, if_neg (by omega)]
        refine qb0 (x.I - (i + 1)) (by omega) (by first|exact wb0|fail) ⟨i + 1, by omega, rfl, by rw [e3]; simp [rowA, eA], ?_⟩;simp (disch := try exact qa0) only [push_cast, simprocAttr, b1, b2, b3, b4, b5, b6, b7, e2, fb, fi, f1, f2, f3, f4, f5, qn, qO, e4]
     ·obtain rfl := hv0 hk;have f1 : (0 : Int).tmod 4 = (m : Int) := f1;have f2 : (0 : Int).tdiv 4 = (v4 : Int) := f2;cases hpa : x.pa with
      | false =>
       rw [hpa] at e3;repeat' (first|refine nv ?_|(with_reducible first|refine gG ?_ ?_|refine ⟨fun h => ?_, fun h => ?_⟩ <;> try omega|refine andG ?_)|simp (disch := try exact qa0) only [push_cast, simprocAttr, b1, b2, b3, b4, b5, b6, b7, e2, fb, fi, f1, f2, f3, f4, f5, qn, qO])
       have e3 : x.row s (i + 1) = ro ++ [((p : Int), (q : Int))] := by rw [e3]; simp
       refine qb0 (x.I - (i + 1)) (by omega) (by first|exact wb0|fail) ⟨i + 1, by omega, rfl, by rw [e3]; simp [rowA, eA], ?_⟩;simp (disch := try exact qa0) only [push_cast, simprocAttr, b1, b2, b3, b4, b5, b6, b7, e2, fb, fi, f1, f2, f3, f4, f5, qn, qO]
      | true =>
       rw [hpa] at e3;repeat' (first|refine nv ?_|(with_reducible first|refine gG ?_ ?_|refine ⟨fun h => ?_, fun h => ?_⟩ <;> try omega|refine andG ?_)|simp (disch := try exact qa0) only [push_cast, simprocAttr, b1, b2, b3, b4, b5, b6, b7, e2, fb, fi, f1, f2, f3, f4, f5, qn, qO])
       have e3 : x.row s (i + 1) = ro ++ [((p : Int), (q : Int))] := by rw [e3, if_neg (by omega)]
       refine qb0 (x.I - (i + 1)) (by omega) (by first|exact wb0|fail) ⟨i + 1, by omega, rfl, by rw [e3]; simp [rowA, eA], ?_⟩;simp (disch := try exact qa0) only [push_cast, simprocAttr, b1, b2, b3, b4, b5, b6, b7, e2, fb, fi, f1, f2, f3, f4, f5, qn, qO]
    ·obtain rfl : i = x.I := by omega
     have et : (rowA (x.row s x.I)).take x.I = rowA (x.row s x.I) := List.take_of_length_le (by omega);repeat' (first|refine nv ?_|(with_reducible first|refine gG ?_ ?_|refine ⟨fun h => ?_, fun h => ?_⟩ <;> try omega|refine andG ?_)|simp (disch := try exact qa0) only [push_cast, simprocAttr, b1, b2, b3, b4, b5, b6, b7, e2, e0])
     refine vg0 (x.n - (s + 1)) 4 (j := 4) rfl (by omega) (by first|exact wb0|fail) (by omega) (by simp [frzH]) (by simp [frzH, frzB, frz, Blk.below, idsE, idsL, AV.ids, qi0, zd0, e2, et]) ⟨s + 1, by omega, rfl, ?_, ?_⟩
     ·rw [e1];simp [frzH, frzB, frz, qi0, e2, et];simp [xb0]
     ·simp (disch := try exact qa0) only [push_cast, simprocAttr, b1, b2, b3, b4, b5, b6, b7, qe0, frz, AV.ids, idsL]
  ·obtain rfl : s = x.n := by omega
   repeat' (first|refine nv ?_|(with_reducible first|refine gG ?_ ?_|refine ⟨fun h => ?_, fun h => ?_⟩ <;> try omega|refine andG ?_)|simp (disch := try exact qa0) only [push_cast, simprocAttr, b1, b2, b3, b4, b5, e0])
def oneM : List Row := kaA9 [(1, 0), (2, 0), (0, 1)]
def twoM : List Row := kaA9 [(2, 0), (0, 1), (1, 0)]
theorem vdr9 : qaB9 1 oneM.length oneM := fun s j hs hj => by
 have h1 : s < 3 := hs;obtain rfl : j = 0 := by omega
 rcases (show s = 0 ∨ s = 1 ∨ s = 2 by omega) with rfl|rfl|rfl <;> decide
theorem kdr9 : qaB9 1 twoM.length twoM := fun s j hs hj => by
 have h1 : s < 3 := hs;obtain rfl : j = 0 := by omega
 rcases (show s = 0 ∨ s = 1 ∨ s = 2 by omega) with rfl|rfl|rfl <;> decide
theorem qds9 : ∀ s, s < oneM.length → (oneM.getD s ([], none)).1.length = 1 := fun s hs => by
 have h1 : s < 3 := hs;rcases (show s = 0 ∨ s = 1 ∨ s = 2 by omega) with rfl|rfl|rfl <;> rfl
theorem zds9 : ∀ s, s < twoM.length → (twoM.getD s ([], none)).1.length = 1 := fun s hs => by
 have h1 : s < 3 := hs;rcases (show s = 0 ∨ s = 1 ∨ s = 2 by omega) with rfl|rfl|rfl <;> rfl
theorem xdc9 : outM twoM.length (pairsP oneM twoM 1) = [0, 2, 1] := by decide
theorem kdD9 : wt0 1 2 oneM 1 2 twoM = 0 := by decide
set_option maxRecDepth 100000 in
theorem zcD9 : PC Tryd.prog G0 19 [mA 1 2 oneM none, mA 1 2 twoM none] (.tup [mA 1 2 oneM (some 3), .sl 1 (ints [0, 2, 1]) (some 3), .int .i64 0]) := by
 have hC := zaO9 1 2 oneM none 1 2 twoM none (by decide) (by decide) (fun j hj => by have := qds9 j hj; omega) (fun j hj => by have := zds9 j hj; omega);have hM := kbb9 1 2 oneM none 1 2 twoM none 1 (by omega) (by decide) (by decide) qds9 zds9 vdr9 kdr9;rw [kdD9] at hC;rw [xdc9] at hM;have hM2 := fun H => xcL9 (r' := .own H.length 3 3 (some 3)) (es' := ints [0, 2, 1]) 0 2 H hM (by simp [idsL, AV.ids, mA]) rfl (by simp [okC, AV.closed, AV.ids, ints]) (by simp [kh0, ints]) (by simp [waZ9, vbI9]) (by simp [renR, renA, twoM, kaA9]);clear hM;unfold mA at *;have e1 : xb0 oneM = [[.sl 2 [[.int .i64 1, .int .i64 0]] (some 1)], [.sl 2 [[.int .i64 2, .int .i64 0]] (some 1)], [.sl 2 [[.int .i64 0, .int .i64 1]] (some 1)]] := rfl;have e2 : xb0 twoM = [[.sl 2 [[.int .i64 2, .int .i64 0]] (some 1)], [.sl 2 [[.int .i64 0, .int .i64 1]] (some 1)], [.sl 2 [[.int .i64 1, .int .i64 0]] (some 1)]] := rfl;have e3 : ints [0, 2, 1] = [[.int .i64 0], [.int .i64 2], [.int .i64 1]] := rfl;rw [e1, e2] at *;rw [e3] at *;refine wf0 2 128 [.cell 4 30, .tmp 5, .tmp 6] Tryd.func19 rfl rfl rfl (by simp) ?_;intro s ⟨a0, a1, hz⟩;simp only [Nat.zero_add, Nat.reduceAdd] at a1;clear hz;have m3 : (3 ≤ maxLen) = True := eq_true (by unfold maxLen; omega);have m1 : (1 ≤ maxLen) = True := eq_true (by unfold maxLen; omega);repeat' (first|(((first|refine nav ?_|(refine g0_ ?_; first|refine dN (p := [0, 1, 1, 1, 1, 1, 1]) [(74, 3), (75, 74), (76, 3), (77, 76)] [(80, none)] [(8, 9)] ?_|refine goD ?_|refine zau9 10 rfl ?_))) <;> (try simp (disch := try exact qa0) only [push_cast, simprocAttr, a0, a1, m1, m3, Int.reduceToNat, ints, Nat.reduceSub, Int.reduceNeg, Int.reduceEq, Nat.reduceLeDiff, Nat.reduceMul]))|(with_reducible first|refine gG ?_ ?_|refine ⟨fun h => ?_, fun h => ?_⟩ <;> try omega|refine andG ?_)|refine cp_ hC ?_|refine cl_ (hM2 _) ?_|simp (disch := try exact qa0) only [push_cast, simprocAttr, a0, a1, m1, m3, Int.reduceToNat, ints, Nat.reduceSub, Int.reduceNeg, Int.reduceEq, Nat.reduceLeDiff, Nat.reduceMul])
end Go.Proofs
