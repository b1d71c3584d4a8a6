import Derived.Test.YtlpjemobbjijdaaGreatDoorAP9
import Derived.Test.YtlpjemobbjijdaaGreatDoorST
import Derived.Test.YtlpjemobbjijdaaGreatDoorV33
import Derived.Test.YtlpjemobbjijdaaGreatDoorV51
import Derived.Test.YtlpjemobbjijdaaGreatDoorV63
import Derived.Test.YtlpjemobbjijdaaGreatDoorV69
import Derived.Test.YtlpjemobbjijdaaGreatDoorLP2
import Derived.Test.YtlpjemobbjijdaaGreatDoorSShelf
import Derived.Shelf.Strings.SlTrimAscii
namespace Go.Proofs
set_option linter.unusedVariables false
end Go.Proofs
namespace Go.Proofs
open Go Go.V
set_option linter.unusedVariables false
set_option linter.unusedSimpArgs false
def kbF9 : List AV := [.str [45, 62], .str [60, 61], .str [62, 61], .str [33, 61], .str [58, 61]]
def G0 : Glob := fun g => match g with|0 => some [.anyi .i64]|1 => some kbF9|_ => none
theorem G0_1 : G0 1 = some kbF9 := rfl
def tkA (t : Tk) : List AV := [.int .u8 t.k, .str t.t, .int .i64 t.l, .int .i64 t.c]
def tks (l : List Tk) : List (List AV) := l.map tkA
theorem wd0 (l : List Tk) : (tks l).length = l.length := by simp [tks]
theorem qn0 (l : List Tk) (k : Nat) (h : k < l.length) : (tks l).getD k [] = tkA (l.getD k tk0) := by simp [tks, h]
theorem vp0 (p : Nat → Bool) (l : List Tk) : idsE p (tks l) = true := xx0 _ _ fun x => by simp [tkA, idsL, AV.ids]
theorem xa0 (p : Nat → Bool) (ps : List (List UInt8)) : idsE p (strs ps) = true := xx0 _ _ fun x => by simp [idsL, AV.ids]
theorem zt0 {p : Nat → Bool} {es : List (List AV)} (h : idsE p es = true) : (es.all fun e => e.all fun x => AV.ids p x) = true := by
 have hl : ∀ e : List AV, idsL p e = true → (e.all fun x => AV.ids p x) = true := fun e => by
  induction e with
  | nil => intro _; rfl
  | cons x xs ih => intro h; rw [idsL, l'a] at h; rw [List.all_cons, h.1, ih h.2]; rfl
 induction es with
 | nil => rfl
 | cons e es ih => rw [idsE, l'a] at h; rw [List.all_cons, hl e h.1, ih h.2]; rfl
theorem zbu9 (p : Nat → Bool) (l : List Tk) : ((tks l).all fun e => e.all fun x => AV.ids p x) = true := zt0 (vp0 p l)
theorem qbG9 (p : Nat → Bool) (l : List (List UInt8)) : ((strs l).all fun e => e.all fun x => AV.ids p x) = true := zt0 (xa0 p l)
theorem kaU9 : tks [] = [] := rfl
theorem kf0 : strs [] = [] := rfl
theorem vO0 (l : List Tk) (x : Tk) : tks l ++ [tkA x] = tks (l ++ [x]) := by simp [tks]
theorem za0 (ps : List (List UInt8)) : (strs ps).length = ps.length := by simp [strs]
theorem vc0 (ps : List (List UInt8)) (k : Nat) (h : k < ps.length) : (strs ps).getD k [] = [.str (ps.getD k [])] := by simp [strs, h]
theorem wcp9 (n : Int) (h1 : -9223372036854775808 ≤ n) (h2 : n < 9223372036854775808) : IntKind.i64.wrap n = n := by rw [IntKind.wrap_i64]; omega
theorem qH0 {α : Type} {l r : List α} (d : α) (h : l.length = r.length) (hh : ∀ j, j < l.length → l.getD j d = r.getD j d) : l = r := by
 refine n'I h fun j h1 h2 => ?_;have := hh j h1;simpa [h1, h2] using this
theorem kaA9 {α : Type} (l : List α) (d : α) (k : Nat) (h : k < l.length) : l.take (k + 1) = l.take k ++ [l.getD k d] := by
 rw [n'M h]; simp [h]
theorem qaB9 {α : Type} (l : List α) (d : α) (k : Nat) (h : k < l.length) : l.drop k = l.getD k d :: l.drop (k + 1) := by
 rw [l'K h]; simp [h]
theorem ze0 {α : Type} {l : List α} {k : Nat} (d : α) (h : k < l.length) : l.getD k d ∈ l := by
 rw [l'b, l'e h]; exact n'z h
theorem getD_some {l : List UInt8} {k : Nat} (h : k < l.length) : l[k]? = some (l.getD k 0) := by simp [h]
abbrev Edg := Int × Int
abbrev Row := List Edg × Option Nat
def eA (e : Edg) : List AV := [.int .i64 e.1, .int .i64 e.2]
def rowA (r : List Edg) : List (List AV) := r.map eA
def kb0 (l : List Row) : List (List AV) := l.map fun r => [.sl 2 (rowA r.1) r.2]
def ints (xs : List Int) : List (List AV) := xs.map fun x => [.int .i64 x]
theorem qf0 (r : List Edg) : (rowA r).length = r.length := by simp [rowA]
theorem xn0 (l : List Row) : (kb0 l).length = l.length := by simp [kb0]
theorem xA0 (xs : List Int) : (ints xs).length = xs.length := by simp [ints]
theorem wn0 (r : List Edg) (k : Nat) (h : k < r.length) : (rowA r).getD k [] = eA (r.getD k (0, 0)) := by simp [rowA, h]
theorem vo0 (l : List Row) (k : Nat) (h : k < l.length) : (kb0 l).getD k [] = [.sl 2 (rowA (l.getD k ([], none)).1) (l.getD k ([], none)).2] := by simp [kb0, h]
theorem kab9 (xs : List Int) (k : Nat) (h : k < xs.length) : (ints xs).getD k [] = [.int .i64 (xs.getD k 0)] := by simp [ints, h]
theorem xm0 (p : Nat → Bool) (r : List Edg) : idsE p (rowA r) = true := xx0 _ _ fun x => by simp [eA, idsL, AV.ids]
theorem we0 (p : Nat → Bool) (l : List Row) : idsE p (kb0 l) = true := xx0 _ _ fun x => by simp [idsL, AV.ids, xm0]
theorem wr0 (p : Nat → Bool) (xs : List Int) : idsE p (ints xs) = true := xx0 _ _ fun x => by simp [idsL, AV.ids]
theorem zaB9 (p : Nat → Bool) (a b : List (List AV)) : idsE p (a ++ b) = (idsE p a && idsE p b) := by
 induction a with
 | nil => simp [idsE]
 | cons x xs ih => simp [idsE, ih, Bool.and_assoc]
theorem zcQ9 (p : Nat → Bool) (r : List Edg) : ((rowA r).all fun e => e.all fun x => AV.ids p x) = true := zt0 (xm0 p r)
theorem vcp9 (p : Nat → Bool) (l : List Row) : ((kb0 l).all fun e => e.all fun x => AV.ids p x) = true := zt0 (we0 p l)
theorem xcQ9 (p : Nat → Bool) (xs : List Int) : ((ints xs).all fun e => e.all fun x => AV.ids p x) = true := zt0 (wr0 p xs)
theorem wcQ9 : ints [] = [] := rfl
theorem wE0 {P : Nat → Prop} {k : Nat} (h : ∀ j, j < k → P j) (hk : P k) : ∀ j, j < k + 1 → P j := fun j hj => by
 rcases l'h j k with q|q
 ·exact h j q
 ·obtain rfl : j = k := by omega
  exact hk
def mA (i o : Int) (l : List Row) (c : Option Nat) : AV := .agg [.int .i64 i, .int .i64 o, .sl 1 (kb0 l) c]
theorem wdc9 {P : Program} {t : TypeId} {T : TI} (h : xb0 P t = some T) : shp P t = T.shape := by simp [shp, h]
theorem xdJ9 (d : Nat) (a b : Int) : eqA Tryz.prog (d + 1) 3 (.int .i64 a) (.int .i64 b) = (true, decide (a = b)) := xdn9 (wdc9 ti3) a b
theorem wdJ9 (d : Nat) (a b a' b' : Int) : eqA Tryz.prog (d + 2) 70 (.agg [.int .i64 a, .int .i64 b]) (.agg [.int .i64 a', .int .i64 b']) = (true, decide (a = a') && decide (b = b')) := by
 rw [xbP9 (wdc9 ti70)];simp only [List.foldr_cons, List.foldr_nil, ti3, wbP9];simp [xdJ9, cut, kr0]
theorem eq3 (a b : Int) : eqA Tryz.prog 8 3 (.int .i64 a) (.int .i64 b) = (true, decide (a = b)) := xdJ9 7 a b
theorem eq70 (a b a' b' : Int) : eqA Tryz.prog 8 70 (.agg [.int .i64 a, .int .i64 b]) (.agg [.int .i64 a', .int .i64 b']) = (true, decide (a = a') && decide (b = b')) := wdJ9 6 a b a' b'
theorem lenS {α : Type} : (∀ (l : List α) (i : Nat) (a : α), (l.set i a).length = l.length) ∧ (∀ l : List α, l.reverse.length = l.length) ∧ (∀ (n : Nat) (a : α), (List.replicate n a).length = n) ∧ (∀ l r : List α, (l ++ r).length = l.length + r.length) ∧ (∀ (a : α) (l : List α), (a :: l).length = l.length + 1) ∧ (([] : List α).length = 0) ∧ (∀ (n : Nat) (l : List α), (l.take n).length = min n l.length) ∧ (∀ (n : Nat) (l : List α), (l.drop n).length = l.length - n) := by
 refine ⟨?_, ?_, ?_, ?_, ?_, ?_, ?_, ?_⟩ <;> intros <;> simp
theorem lenF : (∀ xs, (ints xs).length = xs.length) ∧ (∀ r, (rowA r).length = r.length) ∧ (∀ l, (kb0 l).length = l.length) ∧ (∀ l, (tks l).length = l.length) ∧ (∀ l, (strs l).length = l.length) := ⟨xA0, qf0, xn0, wd0, za0⟩
theorem va0 {p : Prop} (h : p := by first|trivial|((repeat' apply And.intro) <;> first|trivial|assumption|omega|(simp only [maxLen]; omega)|(simp only [lenF, lenS, l'B, maxLen] <;> omega))) : p := h
theorem discB {p : Prop} (h : p := by first|omega|(simp only [lenF, lenS, l'B]; omega)) : p := h
attribute [simp] vp0 xa0 xm0 we0 wr0 zaB9
attribute [push_cast] vp0 xa0 zbu9 qbG9 wd0 za0 zcQ9 vcp9 xcQ9 qf0 xn0 xA0 wcp9 eq3 eq70 Bool.eq_true_or_eq_false_self Bool.eq_false_or_eq_true_self Bool.not_or_self Bool.or_not_self Bool.and_self Bool.or_self Bool.not_not Bool.and_not_self Bool.not_and_self
attribute [push_cast] ti1 ti3 ti4 ti5 ti9 ti10 ti21 ti22 ti24 ti25 ti27 ti29 ti36 ti42 ti44 ti46 ti50 ti54 ti55 ti70 et70 ti71 ti72 ti82 ti87 ti89 ti99 zdT9 xdT9 wdT9 vdT9 kdT9 qdU9 zdU9 xdU9 wdU9 vdU9 kdU9 qdV9 zdV9 xdV9 wdV9 vdV9 kdV9 qdW9 zdW9 xdW9 wdW9 vdW9 kdW9 qdX9 zdX9 xdX9 wdX9 vdX9 kdX9 qdY9 zdY9 en4 en5 en6 en11 en12 en13 en14 en15 en16 en17 en18 en19 en20 en21 en22 en23 en24 en25 en26 en32 en33 en34 en35 en36 en37 en38 en39 en40 en41 en42 en43 en44 en45 en46 en47 en48 en49 en50 en51 en52 en53 en54 en55 en56 en57 en58 en59 en60 en61 en62 en63 en64 en65 en66 en67 en68 en69 en70 en71 en72 en73 en74 en75 en76 en78 en79 en80 en81 en82 en83 en84 en85 en86 en87 en88 en89 en90 en91 en92 en93 en94 en95 en96 en97 en98 en99 xdY9 wdY9 vdY9 xaU9 kcO9 qcP9 kdY9 kbS9 kaz9 qdZ9 zdZ9 xdZ9 wdZ9 vdZ9 kdZ9 qea9 zea9 xea9 wea9 vea9 kea9 qeb9 zeb9 xeb9 web9 veb9 keb9 zcP9 qec9 zec9 xec9 wec9 vec9 kec9 qed9 zed9 xed9 wed9 ved9 ked9 qee9 zee9 xee9 wee9 vee9 kee9 qef9 zef9 xef9 wef9 vef9 kef9 qeg9 zeg9 xeg9 weg9 veg9 keg9 qeh9 zeh9 xeh9 weh9 veh9 keh9 qei9 zei9 xei9 wei9 vei9 kei9
set_option maxHeartbeats 0
set_option maxRecDepth 100000
theorem wbT9 (H : List Blk) (s p : List UInt8) : qb0 Tryz.prog G0 152 [.str s, .str p] H (.bool (Lib.hasPrefix s p)) H := zck9 Tryz.strings_HasPrefix s p
theorem vdJ9 (H : List Blk) (s : List UInt8) (c : UInt8) (n : Int) (hn : n = (c.toNat : Int)) : qb0 Tryz.prog G0 125 [.str s, .int .u8 n] H (.int .i64 (Lib.indexByte s c)) H := vcL9 Tryz.strings_IndexByte s c n hn
theorem kdJ9 (H : List Blk) (s : List UInt8) (hs : s.length ≤ 1000000) : qb0 Tryz.prog G0 99 [.str s, .int .u8 10] H (.int .i64 (Lib.lastIndexByte ⟨s.toArray⟩ 10)) H := kbg9 Tryz.strings_LastIndexByte s 10 (by omega)
theorem xej9 (H : List Blk) (s : List UInt8) : qb0 Tryz.prog G0 98 [.str s, .str [10]] H (.int .i64 ((s.count 10 : Nat) : Int)) H := kcL9 Tryz.strings_Count_one s 10
theorem qdK9 (H : List Blk) (s : List UInt8) : qb0 Tryz.prog G0 151 [.str s, .str [48, 49, 50, 51, 52, 53, 54, 55, 56, 57]] H (.str (Lib.trimLeftS s [48, 49, 50, 51, 52, 53, 54, 55, 56, 57])) H := vbs9 (fun s c w h1 h2 => Any.strings_TrimLeft_laid Tryz.lays161 (by kernel_rfl) s c w h1 h2) s _ (by decide) (by decide)
theorem kbi9 (H : List Blk) (x : AV) (xs : List (List UInt8)) (sep : List UInt8) (hx : wcg9 H x xs) (h1 : (Lib.join xs sep).length ≤ 140737488355328) (h2 : xs.length ≤ 140737488355328) : qb0 Tryz.prog G0 50 [x, .str sep] H (.str (Lib.join xs sep)) H :=
 vdn9 hx (fun a c sep w => Tryz.strings_Join_none a c sep w) (fun bk o c xs sep w h1 h2 h3 h4 h5 => Tryz.strings_Join bk o c xs sep w h1 h2 h3 h4 h5) sep h1 h2
theorem zbG9 (c : UInt8) : PC Tryz.prog G0 150 [.int .u8 (c.toNat : Int)] (.bool (letB c)) := by
 refine wb0 0 17 [.tmp 2] Tryz.func150 rfl rfl rfl (by simp) ?_;intro s ⟨a0, hz⟩;clear hz;repeat' (first|(first|refine nav ?_|(refine g0_ ?_; first|refine vk0 (dr := allQ) rfl rfl mixed (by first|assumption|kernel_rfl) ?_))|(with_reducible refine And.intro (at_go ?_) (at_go ?_))|((with_reducible refine And.intro (fun h => ?_) (fun h => ?_)) <;> try (exfalso; omega))|with_reducible refine andG ?_|simp (disch := try exact discB) only [push_cast, simprocAttr, a0])
 all_goals (congr 1; first|rfl|(rw [l'X]; simp only [letB, digB, wrdB, l's, l'a, decide_eq_true_eq]; omega)|(simp only [letB, digB, wrdB, l's, l'a, decide_eq_true_eq, l'L, ne_eq, eq_comm (a := true), eq_comm (a := false), if_pos, if_neg] at *; omega))
theorem vdr9 (c : UInt8) : PC Tryz.prog G0 166 [.int .u8 (c.toNat : Int)] (.bool (digB c)) := by
 refine wb0 0 9 [.tmp 2] Tryz.func166 rfl rfl rfl (by simp) ?_;intro s ⟨a0, hz⟩;clear hz;repeat' (first|(first|refine nav ?_|(refine g0_ ?_; first|refine vk0 (dr := allQ) rfl rfl mixed (by first|assumption|kernel_rfl) ?_))|(with_reducible refine And.intro (at_go ?_) (at_go ?_))|((with_reducible refine And.intro (fun h => ?_) (fun h => ?_)) <;> try (exfalso; omega))|with_reducible refine andG ?_|simp (disch := try exact discB) only [push_cast, simprocAttr, a0])
 all_goals (congr 1; first|rfl|(rw [l'X]; simp only [letB, digB, wrdB, l's, l'a, decide_eq_true_eq]; omega)|(simp only [letB, digB, wrdB, l's, l'a, decide_eq_true_eq, l'L, ne_eq, eq_comm (a := true), eq_comm (a := false), if_pos, if_neg] at *; omega))
theorem vcQ9 (c : UInt8) : PC Tryz.prog G0 149 [.int .u8 (c.toNat : Int)] (.bool (wrdB c)) := by
 have h1 := zbG9 c;have h2 := vdr9 c;have hw : wrdB c = (letB c || digB c || decide (c.toNat = 95)) := rfl;have e : ((c.toNat : Int) = 95) = (c.toNat = 95) := by apply propext; omega
 rw [hw];generalize letB c = x at *;generalize digB c = y at *;cases x <;> cases y
 all_goals (
  refine wb0 0 13 [.tmp 2] Tryz.func149 rfl rfl rfl (by simp) ?_;intro s ⟨a0, hz⟩;clear hz;repeat' (first|(first|refine nav ?_|(refine g0_ ?_; first|refine vk0 (dr := allQ) rfl rfl mixed (by first|assumption|kernel_rfl) ?_))|(with_reducible refine And.intro (at_go ?_) (at_go ?_))|((with_reducible refine And.intro (fun h => ?_) (fun h => ?_)) <;> try (exfalso; omega))|with_reducible refine andG ?_|(first|(refine ⟨_, _, kh0 h1 (by simp [idsL, idsE, AV.ids]) _, ?_⟩)|(refine ⟨_, kh0 h1 (by simp [idsL, idsE, AV.ids]) _, ?_⟩)|(refine ⟨_, fun _ => kh0 h1 (by simp [idsL, idsE, AV.ids]) _, ?_⟩)|(refine ⟨_, _, kh0 h2 (by simp [idsL, idsE, AV.ids]) _, ?_⟩)|(refine ⟨_, kh0 h2 (by simp [idsL, idsE, AV.ids]) _, ?_⟩)|(refine ⟨_, fun _ => kh0 h2 (by simp [idsL, idsE, AV.ids]) _, ?_⟩)|(refine ⟨AV.str [], ?_⟩; refine kY0 ?_))|simp (disch := try exact discB) only [push_cast, simprocAttr, a0, e]))
def bI (b : Bool) : Int := if b = true then 1 else 0
theorem xbG9 (c : UInt8) : PC Tryz.prog G0 132 [.int .u8 (c.toNat : Int)] (.int .i64 (bI (letB c))) := by
 refine wb0 0 17 [.tmp 2] Tryz.func132 rfl rfl rfl (by simp) ?_;intro s ⟨a0, hz⟩;clear hz;repeat' (first|(first|refine nav ?_|(refine g0_ ?_; first|refine vk0 (dr := allQ) rfl rfl mixed (by first|assumption|kernel_rfl) ?_))|(with_reducible refine And.intro (at_go ?_) (at_go ?_))|((with_reducible refine And.intro (fun h => ?_) (fun h => ?_)) <;> try (exfalso; omega))|with_reducible refine andG ?_|simp (disch := try exact discB) only [push_cast, simprocAttr, a0])
 all_goals (congr 1; unfold bI; split <;> first|rfl|(rename_i q; simp only [letB, l's, l'a, decide_eq_true_eq] at q; exfalso; omega))
theorem kcp9 (c : UInt8) : PC Tryz.prog G0 133 [.int .u8 (c.toNat : Int)] (.int .i64 (bI (digB c))) := by
 refine wb0 0 9 [.tmp 2] Tryz.func133 rfl rfl rfl (by simp) ?_;intro s ⟨a0, hz⟩;clear hz;repeat' (first|(first|refine nav ?_|(refine g0_ ?_; first|refine vk0 (dr := allQ) rfl rfl mixed (by first|assumption|kernel_rfl) ?_))|(with_reducible refine And.intro (at_go ?_) (at_go ?_))|((with_reducible refine And.intro (fun h => ?_) (fun h => ?_)) <;> try (exfalso; omega))|with_reducible refine andG ?_|simp (disch := try exact discB) only [push_cast, simprocAttr, a0])
 all_goals (congr 1; unfold bI; split <;> first|rfl|(rename_i q; simp only [digB, l's, l'a, decide_eq_true_eq] at q; exfalso; omega))
theorem qcq9 (c : UInt8) : PC Tryz.prog G0 109 [.int .u8 (c.toNat : Int)] (.int .i64 (bI (wrdB c))) := by
 have h1 := xbG9 c;have h2 := kcp9 c;have hw : wrdB c = (letB c || digB c || decide (c.toNat = 95)) := rfl;have hx : ¬ (letB c = true ∧ digB c = true) := by simp only [letB, digB, l's, l'a, decide_eq_true_eq]; omega
 have h95 : c.toNat = 95 → letB c = false ∧ digB c = false := fun q => by simp [letB, digB, q]
 by_cases q : c.toNat = 95
 ·have e : ((c.toNat : Int) = 95) = True := by rw [q]; simp
  rw [hw, q];refine wb0 0 10 [.tmp 2] Tryz.func109 rfl rfl rfl (by simp) ?_;intro s ⟨a0, hz⟩;clear hz;repeat' (first|(first|refine nav ?_|(refine g0_ ?_; first|refine vk0 (dr := allQ) rfl rfl mixed (by first|assumption|kernel_rfl) ?_))|(with_reducible refine And.intro (at_go ?_) (at_go ?_))|((with_reducible refine And.intro (fun h => ?_) (fun h => ?_)) <;> try (exfalso; omega))|with_reducible refine andG ?_|simp (disch := try exact discB) only [push_cast, simprocAttr, a0, e])
  all_goals (simp [bI])
 ·have e : ((c.toNat : Int) = 95) = False := by simp; omega
  rw [hw, decide_eq_false q, Bool.or_false];generalize letB c = x at *;generalize digB c = y at *;refine wb0 0 10 [.tmp 2] Tryz.func109 rfl rfl rfl (by simp) ?_;intro s ⟨a0, hz⟩;clear hz;repeat' (first|(first|refine nav ?_|(refine g0_ ?_; first|refine vk0 (dr := allQ) rfl rfl mixed (by first|assumption|kernel_rfl) ?_))|(with_reducible refine And.intro (at_go ?_) (at_go ?_))|((with_reducible refine And.intro (fun h => ?_) (fun h => ?_)) <;> try (exfalso; omega))|with_reducible refine andG ?_|(first|(refine ⟨_, _, kh0 h1 (by simp [idsL, idsE, AV.ids]) _, ?_⟩)|(refine ⟨_, kh0 h1 (by simp [idsL, idsE, AV.ids]) _, ?_⟩)|(refine ⟨_, fun _ => kh0 h1 (by simp [idsL, idsE, AV.ids]) _, ?_⟩)|(refine ⟨_, _, kh0 h2 (by simp [idsL, idsE, AV.ids]) _, ?_⟩)|(refine ⟨_, kh0 h2 (by simp [idsL, idsE, AV.ids]) _, ?_⟩)|(refine ⟨_, fun _ => kh0 h2 (by simp [idsL, idsE, AV.ids]) _, ?_⟩))|simp (disch := try exact discB) only [push_cast, simprocAttr, a0, e])
  all_goals (revert hx; cases x <;> cases y <;> first|(simp [bI]; done)|(simp [bI]; decide))
theorem zdK9 (c d : UInt8) : PC Tryz.prog G0 111 [.int .u8 (c.toNat : Int), .int .u8 (d.toNat : Int)] (.int .i64 (bI (wI0 c d))) := by
 have hp : wI0 c d = true ↔ ((c.toNat = 45 ∧ d.toNat = 62) ∨ ((c.toNat = 60 ∨ c.toNat = 62 ∨ c.toNat = 33 ∨ c.toNat = 58) ∧ d.toNat = 61)) := by
  simp only [wI0, l's, l'a, decide_eq_true_eq, ← l'Y, or_assoc]; rfl
 refine wb0 0 31 [.tmp 4] Tryz.func111 rfl rfl rfl (by simp) ?_;intro s ⟨a0, a1, hz⟩;simp only [l'g, Nat.reduceAdd] at a1;clear hz;repeat' (first|(first|refine nav ?_|(refine g0_ ?_; first|refine vk0 (dr := allQ) rfl rfl mixed (by first|assumption|kernel_rfl) ?_))|(with_reducible refine And.intro (at_go ?_) (at_go ?_))|((with_reducible refine And.intro (fun h => ?_) (fun h => ?_)) <;> try (exfalso; omega))|with_reducible refine andG ?_|simp (disch := try exact discB) only [push_cast, simprocAttr, a0, a1])
 all_goals (congr 1; unfold bI; split <;> first|rfl|(rename_i q; rw [hp] at q; exfalso; omega))
theorem kcQ9 (c : UInt8) : PC Tryz.prog G0 112 [.int .u8 (c.toNat : Int)] (.int .i64 (bI (sngB c))) := by
 have hs : ∀ k : Nat, k < 26 → sngs.getD k 0 = c → sngB c = true := fun k hk e => by
  have : c ∈ sngs := by rw [← e]; exact ze0 0 hk
  simpa [sngB] using this
 refine wb0 0 16 [.tmp 2] Tryz.func112 rfl rfl rfl (by simp) ?_;intro s ⟨a0, hz⟩;clear hz;repeat' (first|(first|refine nav ?_|(refine g0_ ?_; first|refine vk0 (dr := allQ) rfl rfl mixed (by first|assumption|kernel_rfl) ?_))|(with_reducible refine And.intro (at_go ?_) (at_go ?_))|((with_reducible refine And.intro (fun h => ?_) (fun h => ?_)) <;> try (exfalso; omega))|with_reducible refine andG ?_|simp (disch := try exact discB) only [push_cast, simprocAttr, a0])
 refine go_loop rfl (fun mz s' H' => ∃ k : Nat, k ≤ 26 ∧ mz = 26 - k ∧ H' = [] ∧ s' 0 = .int .u8 (c.toNat : Int) ∧ s' 3 = .str sngs ∧ s' 4 = .int .i64 k ∧ (∀ j, j < k → sngs.getD j 0 ≠ c)) (m := 26) (by first|exact va0|fail) (Weak.refl _ _) ⟨0, by omega, by omega, rfl, ?_⟩ ?_
 ·simp (disch := try exact discB) only [push_cast, simprocAttr, a0];exact ⟨rfl, fun j h => absurd h (by omega)⟩
 ·rintro mz s' H' ⟨k, hk, rfl, rfl, b0, b3, b4, ik⟩;have e1 : sngs.length = 26 := rfl;have hsk := hs k;generalize hS : sngs = S at *;rcases l'h k 26 with hlt|hge
  ·have hne : ((S.getD k 0).toNat : Int) = (c.toNat : Int) ↔ S.getD k 0 = c := by rw [Int.natCast_inj, l'Y]
   repeat' (first|(first|refine nav ?_|(refine g0_ ?_; first|refine vk0 (dr := allQ) rfl rfl mixed (by first|assumption|kernel_rfl) ?_))|(with_reducible refine And.intro (at_go ?_) (at_go ?_))|((with_reducible refine And.intro (fun h => ?_) (fun h => ?_)) <;> try (exfalso; omega))|with_reducible refine andG ?_|simp (disch := try exact discB) only [push_cast, simprocAttr, b0, b3, b4, e1, hne])
   ·rw [hsk hlt h]; rfl
   ·refine wa0 (26 - (k + 1)) (by omega) (by first|exact va0|fail) ⟨k + 1, by omega, rfl, rfl, ?_⟩;simp (disch := try exact discB) only [push_cast, simprocAttr, b0, b3, b4, e1, hne];intro j hj;by_cases e : j = k
    ·subst e; exact h
    ·exact ik j (by omega)
  ·obtain rfl : k = 26 := by omega
   repeat' (first|(first|refine nav ?_|(refine g0_ ?_; first|refine vk0 (dr := allQ) rfl rfl mixed (by first|assumption|kernel_rfl) ?_))|(with_reducible refine And.intro (at_go ?_) (at_go ?_))|((with_reducible refine And.intro (fun h => ?_) (fun h => ?_)) <;> try (exfalso; omega))|with_reducible refine andG ?_|simp (disch := try exact discB) only [push_cast, simprocAttr, b0, b3, b4, e1])
   have : sngB c = false := by
    rw [l'L];intro q;have hm : c ∈ S := by rw [← hS]; simpa [sngB] using q
    obtain ⟨j, hj, e⟩ := List.mem_iff_getElem.1 hm;exact ik j (by omega) (by simp [hj, e])
   rw [this]; rfl
theorem xdK9 (s0 : Bs) (hs : s0.length ≤ 1000000) : PC Tryz.prog G0 126 [.str s0] (.str (wordS s0)) := by
 have e0 := wo0 s0;have e1 := wbF9 s0;have e2 := xbF9 s0;have e3 := zaA9 s0;rw [← e0];generalize (wordS s0).length = L at *;refine wb0 0 19 [.tmp 2] Tryz.func126 rfl rfl rfl (by simp) ?_;intro s ⟨a0, hz⟩;clear hz;repeat' (first|(first|refine nav ?_|(refine g0_ ?_; first|refine vk0 (dr := allQ) rfl rfl mixed (by first|assumption|kernel_rfl) ?_))|(with_reducible refine And.intro (at_go ?_) (at_go ?_))|((with_reducible refine And.intro (fun h => ?_) (fun h => ?_)) <;> try (exfalso; omega))|with_reducible refine andG ?_|simp (disch := try exact discB) only [push_cast, simprocAttr, a0])
 refine go_loop rfl (fun mz s' H' => ∃ k : Nat, k ≤ L ∧ mz = L - k ∧ H' = [] ∧ s' 0 = .str s0 ∧ s' 3 = .int .i64 k) (m := L) (by first|exact va0|fail) (Weak.refl _ _) ⟨0, by omega, by omega, rfl, ?_⟩ ?_
 ·(simp (disch := try exact discB) only [push_cast, simprocAttr, a0]) <;> (first|rfl|exact ⟨rfl, rfl⟩|omega|(congr 1; omega)|(simp; done)|((repeat' apply And.intro) <;> first|rfl|omega|(congr 1; omega)))
 ·rintro mz s' H' ⟨k, hk, rfl, rfl, b0, b3⟩;have h3 := vcQ9 (s0.getD k 0);rcases l'h k L with hlt|hge
  ·obtain ⟨b, hb, hw⟩ := e2 k hlt;have e4 : s0.getD k 0 = b := by rw [l'b, hb]; rfl
   rw [e4, hw] at h3;repeat' (first|(first|refine nav ?_|(refine g0_ ?_; first|refine vk0 (dr := allQ) rfl rfl mixed (by first|assumption|kernel_rfl) ?_))|(with_reducible refine And.intro (at_go ?_) (at_go ?_))|((with_reducible refine And.intro (fun h => ?_) (fun h => ?_)) <;> try (exfalso; omega))|with_reducible refine andG ?_|(first|(refine ⟨_, _, kh0 h3 (by simp [idsL, idsE, AV.ids]) _, ?_⟩)|(refine ⟨_, kh0 h3 (by simp [idsL, idsE, AV.ids]) _, ?_⟩)|(refine ⟨_, fun _ => kh0 h3 (by simp [idsL, idsE, AV.ids]) _, ?_⟩))|simp (disch := try exact discB) only [push_cast, simprocAttr, b0, b3, e4])
   refine wa0 (L - (k + 1)) (by omega) (by first|exact va0|fail) ⟨k + 1, by omega, rfl, rfl, ?_⟩;simp (disch := try exact discB) only [push_cast, simprocAttr, b0, b3, e4]
  ·obtain rfl : k = L := by omega
   rcases l'h k s0.length with hlt|hge2
   ·rcases e3 with q|⟨b, hb, hw⟩
    ·rw [getD_some hlt] at q; cases q
    ·have e4 : s0.getD k 0 = b := by rw [l'b, hb]; rfl
     rw [e4, hw] at h3;repeat' (first|(first|refine nav ?_|(refine g0_ ?_; first|refine vk0 (dr := allQ) rfl rfl mixed (by first|assumption|kernel_rfl) ?_))|(with_reducible refine And.intro (at_go ?_) (at_go ?_))|((with_reducible refine And.intro (fun h => ?_) (fun h => ?_)) <;> try (exfalso; omega))|with_reducible refine andG ?_|(first|(refine ⟨_, _, kh0 h3 (by simp [idsL, idsE, AV.ids]) _, ?_⟩)|(refine ⟨_, kh0 h3 (by simp [idsL, idsE, AV.ids]) _, ?_⟩)|(refine ⟨_, fun _ => kh0 h3 (by simp [idsL, idsE, AV.ids]) _, ?_⟩))|simp (disch := try exact discB) only [push_cast, simprocAttr, b0, b3, e4])
     all_goals first|omega|rfl
   ·obtain rfl : k = s0.length := by omega
    repeat' (first|(first|refine nav ?_|(refine g0_ ?_; first|refine vk0 (dr := allQ) rfl rfl mixed (by first|assumption|kernel_rfl) ?_))|(with_reducible refine And.intro (at_go ?_) (at_go ?_))|((with_reducible refine And.intro (fun h => ?_) (fun h => ?_)) <;> try (exfalso; omega))|with_reducible refine andG ?_|simp (disch := try exact discB) only [push_cast, simprocAttr, b0, b3])
end Go.Proofs
