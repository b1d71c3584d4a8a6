import Derived.Test.YtlpjemobbjijdaaGreatDoorAP9
import Derived.Test.YtlpjemobbjijdaaGreatDoorST
import Derived.Test.YtlpjemobbjijdaaGreatDoorV33
import Derived.Test.YtlpjemobbjijdaaGreatDoorV51
import Derived.Test.YtlpjemobbjijdaaGreatDoorV63
import Derived.Test.YtlpjemobbjijdaaGreatDoorV69
import Derived.Test.YtlpjemobbjijdaaGreatDoorLP2
import Derived.Test.YtlpjemobbjijdaaGreatDoorSShelf
import Derived.Shelf.Strings.SlTrimAscii
namespace Go.Proofs
set_option linter.unusedVariables false
end Go.Proofs
namespace Go.Proofs
open Go Go.V
set_option linter.unusedVariables false
set_option linter.unusedSimpArgs false
def zbv9 : List AV := [.str [45, 62], .str [60, 61], .str [62, 61], .str [33, 61], .str [58, 61]]
def G0 : Glob := fun g => match g with|0 => some [.anyi .i64]|1 => some zbv9|_ => none
theorem G0_1 : G0 1 = some zbv9 := rfl
def tkA (t : Tk) : List AV := [.int .u8 t.k, .str t.t, .int .i64 t.l, .int .i64 t.c]
def tks (l : List Tk) : List (List AV) := l.map tkA
theorem kg0 (l : List Tk) : (tks l).length = l.length := by simp [tks]
theorem xX0 (l : List Tk) (k : Nat) (h : k < l.length) : (tks l).getD k [] = tkA (l.getD k tk0) := by simp [tks, h]
theorem wK0 (p : Nat → Bool) (l : List Tk) : idsE p (tks l) = true := qw0 _ _ fun x => by simp [tkA, idsL, AV.ids]
theorem xa0 (p : Nat → Bool) (ps : List (List UInt8)) : idsE p (strs ps) = true := qw0 _ _ fun x => by simp [idsL, AV.ids]
theorem zr0 {p : Nat → Bool} {es : List (List AV)} (h : idsE p es = true) : (es.all fun e => e.all fun x => AV.ids p x) = true := by
 have hl : ∀ e : List AV, idsL p e = true → (e.all fun x => AV.ids p x) = true := fun e => by
  induction e with
  | nil => intro _; rfl
  | cons x xs ih => intro h; rw [idsL, Bool.and_eq_true] at h; rw [List.all_cons, h.1, ih h.2]; rfl
 induction es with
 | nil => rfl
 | cons e es ih => rw [idsE, Bool.and_eq_true] at h; rw [List.all_cons, hl e h.1, ih h.2]; rfl
theorem vcd9 (p : Nat → Bool) (l : List Tk) : ((tks l).all fun e => e.all fun x => AV.ids p x) = true := zr0 (wK0 p l)
theorem xbv9 (p : Nat → Bool) (l : List (List UInt8)) : ((strs l).all fun e => e.all fun x => AV.ids p x) = true := zr0 (xa0 p l)
theorem wcZ9 : tks [] = [] := rfl
theorem kf0 : strs [] = [] := rfl
theorem kcA9 (l : List Tk) (x : Tk) : tks l ++ [tkA x] = tks (l ++ [x]) := by simp [tks]
theorem wa0 (ps : List (List UInt8)) : (strs ps).length = ps.length := by simp [strs]
theorem vd0 (ps : List (List UInt8)) (k : Nat) (h : k < ps.length) : (strs ps).getD k [] = [.str (ps.getD k [])] := by simp [strs, h]
theorem kcd9 (n : Int) (h1 : -9223372036854775808 ≤ n) (h2 : n < 9223372036854775808) : IntKind.i64.wrap n = n := by rw [IntKind.wrap_i64]; omega
theorem xD0 {α : Type} {l r : List α} (d : α) (h : l.length = r.length) (hh : ∀ j, j < l.length → l.getD j d = r.getD j d) : l = r := by
 refine List.ext_getElem h fun j h1 h2 => ?_
 have := hh j h1
 simpa [h1, h2] using this
theorem qce9 {α : Type} (l : List α) (d : α) (k : Nat) (h : k < l.length) : l.take (k + 1) = l.take k ++ [l.getD k d] := by
 rw [List.take_succ_eq_append_getElem h]; simp [h]
theorem ve0 {α : Type} {l : List α} {k : Nat} (d : α) (h : k < l.length) : l.getD k d ∈ l := by
 rw [List.getD_eq_getElem?_getD, List.getElem?_eq_getElem h]; exact List.getElem_mem h
theorem getD_some {l : List UInt8} {k : Nat} (h : k < l.length) : l[k]? = some (l.getD k 0) := by simp [h]
abbrev Edg := Int × Int
abbrev Row := List Edg × Option Nat
def eA (e : Edg) : List AV := [.int .i64 e.1, .int .i64 e.2]
def rowA (r : List Edg) : List (List AV) := r.map eA
def kc0 (l : List Row) : List (List AV) := l.map fun r => [.sl 2 (rowA r.1) r.2]
def ints (xs : List Int) : List (List AV) := xs.map fun x => [.int .i64 x]
theorem vi0 (r : List Edg) : (rowA r).length = r.length := by simp [rowA]
theorem wu0 (l : List Row) : (kc0 l).length = l.length := by simp [kc0]
theorem xy0 (xs : List Int) : (ints xs).length = xs.length := by simp [ints]
theorem zp0 (r : List Edg) (k : Nat) (h : k < r.length) : (rowA r).getD k [] = eA (r.getD k (0, 0)) := by simp [rowA, h]
theorem xr0 (l : List Row) (k : Nat) (h : k < l.length) : (kc0 l).getD k [] = [.sl 2 (rowA (l.getD k ([], none)).1) (l.getD k ([], none)).2] := by simp [kc0, h]
theorem wX0 (xs : List Int) (k : Nat) (h : k < xs.length) : (ints xs).getD k [] = [.int .i64 (xs.getD k 0)] := by simp [ints, h]
theorem wl0 (p : Nat → Bool) (r : List Edg) : idsE p (rowA r) = true := qw0 _ _ fun x => by simp [eA, idsL, AV.ids]
theorem xf0 (p : Nat → Bool) (l : List Row) : idsE p (kc0 l) = true := qw0 _ _ fun x => by simp [idsL, AV.ids, wl0]
theorem xp0 (p : Nat → Bool) (xs : List Int) : idsE p (ints xs) = true := qw0 _ _ fun x => by simp [idsL, AV.ids]
theorem xat9 (p : Nat → Bool) (a b : List (List AV)) : idsE p (a ++ b) = (idsE p a && idsE p b) := by
 induction a with
 | nil => simp [idsE]
 | cons x xs ih => simp [idsE, ih, Bool.and_assoc]
theorem qcB9 (p : Nat → Bool) (r : List Edg) : ((rowA r).all fun e => e.all fun x => AV.ids p x) = true := zr0 (wl0 p r)
theorem zce9 (p : Nat → Bool) (l : List Row) : ((kc0 l).all fun e => e.all fun x => AV.ids p x) = true := zr0 (xf0 p l)
theorem zcB9 (p : Nat → Bool) (xs : List Int) : ((ints xs).all fun e => e.all fun x => AV.ids p x) = true := zr0 (xp0 p xs)
theorem xcB9 : ints [] = [] := rfl
theorem xad9 {P : Nat → Prop} {k : Nat} (h : ∀ j, j < k → P j) (hk : P k) : ∀ j, j < k + 1 → P j := fun j hj => by
 rcases Nat.lt_or_ge j k with q|q
 ·exact h j q
 ·obtain rfl : j = k := by omega
  exact hk
def mA (i o : Int) (l : List Row) (c : Option Nat) : AV := .agg [.int .i64 i, .int .i64 o, .sl 1 (kc0 l) c]
theorem zcL9 {P : Program} {t : TypeId} {T : TI} (h : qa0 P t = some T) : shp P t = T.shape := by simp [shp, h]
theorem vdr9 (d : Nat) (a b : Int) : eqA Tryz.prog (d + 1) 3 (.int .i64 a) (.int .i64 b) = (true, decide (a = b)) := wcU9 (zcL9 ti3) a b
theorem kdr9 (d : Nat) (a b a' b' : Int) : eqA Tryz.prog (d + 2) 70 (.agg [.int .i64 a, .int .i64 b]) (.agg [.int .i64 a', .int .i64 b']) = (true, decide (a = a') && decide (b = b')) := by
 rw [zbE9 (zcL9 ti70)]
 simp only [List.foldr_cons, List.foldr_nil, ti3, xbE9]
 simp [vdr9, cut, wp0]
theorem eq3 (a b : Int) : eqA Tryz.prog 8 3 (.int .i64 a) (.int .i64 b) = (true, decide (a = b)) := vdr9 7 a b
theorem eq70 (a b a' b' : Int) : eqA Tryz.prog 8 70 (.agg [.int .i64 a, .int .i64 b]) (.agg [.int .i64 a', .int .i64 b']) = (true, decide (a = a') && decide (b = b')) := kdr9 6 a b a' b'
theorem lenS {α : Type} : (∀ (l : List α) (i : Nat) (a : α), (l.set i a).length = l.length) ∧ (∀ l : List α, l.reverse.length = l.length) ∧ (∀ (n : Nat) (a : α), (List.replicate n a).length = n) ∧ (∀ l r : List α, (l ++ r).length = l.length + r.length) ∧ (∀ (a : α) (l : List α), (a :: l).length = l.length + 1) ∧ (([] : List α).length = 0) ∧ (∀ (n : Nat) (l : List α), (l.take n).length = min n l.length) ∧ (∀ (n : Nat) (l : List α), (l.drop n).length = l.length - n) := by
 refine ⟨?_, ?_, ?_, ?_, ?_, ?_, ?_, ?_⟩ <;> intros <;> simp
theorem lenF : (∀ xs, (ints xs).length = xs.length) ∧ (∀ r, (rowA r).length = r.length) ∧ (∀ l, (kc0 l).length = l.length) ∧ (∀ l, (tks l).length = l.length) ∧ (∀ l, (strs l).length = l.length) := ⟨xy0, vi0, wu0, kg0, wa0⟩
theorem xb0 {p : Prop} (h : p := by first|trivial|((repeat' apply And.intro) <;> first|trivial|assumption|omega|(simp only [maxLen]; omega)|(simp only [lenF, lenS, List.length_map, maxLen] <;> omega))) : p := h
theorem discB {p : Prop} (h : p := by first|omega|(simp only [lenF, lenS, List.length_map]; omega)) : p := h
attribute [simp] wK0 xa0 wl0 xf0 xp0 xat9
attribute [push_cast] wK0 xa0 vcd9 xbv9 kg0 wa0 qcB9 zce9 zcB9 vi0 wu0 xy0 kcd9 eq3 eq70 Bool.eq_true_or_eq_false_self Bool.eq_false_or_eq_true_self Bool.not_or_self Bool.or_not_self Bool.and_self Bool.or_self Bool.not_not Bool.and_not_self Bool.not_and_self
attribute [push_cast] ti1 ti2 ti3 ti4 ti5 ti6 ti7 ti8 ti9 ti10 ti11 ti12 ti13 ti14 ti15 ti16 ti17 ti18 ti19 ti20 ti21 ti22 ti23 ti24 ti25 ti26 ti27 ti28 ti29 ti30 ti31 ti33 ti34 ti35 ti36 ti38 ti39 ti40 ti41 ti42 ti43 ti44 ti45 ti46 ti47 ti49 ti50 ti51 ti53 ti54 ti55 ti56 ti57 ti58 ti59 ti60 ti61 ti63 ti64 ti65 ti66 ti67 ti68 ti69 ti70 et70 ti71 ti72 ti73 ti74 ti75 ti76 ti77 ti78 ti79 ti80 ti81 ti82 ti83 ti84 ti85 ti86 ti87 ti88 ti89 ti90 ti91 ti93 ti94 ti95 ti96 ti97 ti98 ti99 xdB9 wdB9 vdB9 kdB9 qdC9 zdC9 xdC9 wdC9 vdC9 kdC9 qdD9 zdD9 xdD9 wdD9 vdD9 kdD9 qdE9 zdE9 xdE9 wdE9 vdE9 kdE9 qdF9 zdF9 xdF9 wdF9 vdF9 kdF9 qdG9 zdG9 xdG9 wdG9 vdG9 kdG9 qdH9 zdH9 xdH9 wdH9 vdH9 kdH9 qdI9 zdI9 xdI9 wdI9 vdI9 kdI9 qdJ9 zdJ9 xdJ9 wdJ9 vdJ9 kdJ9 qdK9 zdK9 xdK9 wdK9 vdK9 kdK9 qdL9 zdL9 xdL9 wdL9 vdL9 kdL9 qdM9 zdM9 xdM9 wdM9 vdM9 kdM9 qdN9 zdN9 xdN9 wdN9 vdN9 kdN9 qdO9 zdO9 xdO9 wdO9 vdO9 kdO9 qdP9 zdP9 xdP9 wdP9 vdP9 kdP9 qdQ9 zdQ9 xdQ9 wdQ9 vdQ9 kdQ9 qdR9 zdR9 xdR9 wdR9 vdR9 kdR9 qdS9 zdS9 xdS9 wdS9 vdS9 kdS9 qdT9 zdT9 xdT9 wdT9 vdT9 kdT9 qdU9 zdU9 xdU9 wdU9 vdU9 kdU9 qdV9 zdV9 xdV9 wdV9 vdV9 kdV9 qdW9 zdW9 en2 en3 en4 en5 en6 en7 en8 en9 en10 en11 en12 en13 en14 en15 en16 en17 en18 en19 en20 en21 en22 en23 en24 en25 en26 en27 en28 en29 en30 en31 en32 en33 en34 en35 en36 en37 en38 en39 en40 en41 en42 en43 en44 en45 en46 en47 en48 en49 en50 en51 en52 en53 en54 en55 en56 en57 en58 en59 en60 en61 en62 en63 en64 en65 en66 en67 en68 en69 en70 en71 en72 en73 en74 en75 en76 en77 en78 en79 en80 en81 en82 en83 en84 en85 en86 en87 en88 en89 en90 en91 en92 en93 en94 en95 en96 en97 en98 en99 xdW9 wdW9 vdW9 zaL9 qcz9 zcz9 kdW9 kbH9 xas9 qdX9 zdX9 xdX9 wdX9 vdX9 kdX9 qdY9 zdY9 xdY9 wdY9 vdY9 kdY9 qdZ9 zdZ9 xdZ9 wdZ9 vdZ9 kdZ9 xcz9 qea9 zea9 xea9 wea9 vea9 kea9 qeb9 zeb9 xeb9 web9 veb9 keb9 qec9 zec9 xec9 wec9 vec9 kec9 qed9 zed9 xed9 wed9 ved9 ked9 qee9 zee9 xee9 wee9 vee9 kee9 qef9 zef9 xef9 wef9 vef9 kef9 qeg9 zeg9 xeg9 weg9 veg9 keg9 qeh9 zeh9 xeh9 weh9
end Go.Proofs
namespace Go.Proofs
open Go Go.V
set_option linter.unusedVariables false
set_option linter.unusedSimpArgs false
set_option maxHeartbeats 0
set_option maxRecDepth 100000
theorem wbI9 (H : List Blk) (s p : List UInt8) : ka0 Tryz.prog G0 152 [.str s, .str p] H (.bool (Lib.hasPrefix s p)) H := qbZ9 Tryz.strings_HasPrefix s p
theorem qds9 (H : List Blk) (s : List UInt8) (c : UInt8) (n : Int) (hn : n = (c.toNat : Int)) : ka0 Tryz.prog G0 125 [.str s, .int .u8 n] H (.int .i64 (Lib.indexByte s c)) H := kcv9 Tryz.strings_IndexByte s c n hn
theorem zds9 (H : List Blk) (s : List UInt8) (hs : s.length ≤ 1000000) : ka0 Tryz.prog G0 99 [.str s, .int .u8 10] H (.int .i64 (Lib.lastIndexByte ⟨s.toArray⟩ 10)) H := vaW9 Tryz.strings_LastIndexByte s 10 (by omega)
theorem qei9 (H : List Blk) (s : List UInt8) : ka0 Tryz.prog G0 98 [.str s, .str [10]] H (.int .i64 ((s.count 10 : Nat) : Int)) H := qcw9 Tryz.strings_Count_one s 10
theorem xds9 (H : List Blk) (s : List UInt8) : ka0 Tryz.prog G0 151 [.str s, .str [48, 49, 50, 51, 52, 53, 54, 55, 56, 57]] H (.str (Lib.trimLeftS s [48, 49, 50, 51, 52, 53, 54, 55, 56, 57])) H := vbi9 (fun s c w h1 h2 => Any.strings_TrimLeft_laid Tryz.lays161 (by kernel_rfl) s c w h1 h2) s _ (by decide) (by decide)
theorem qaZ9 (H : List Blk) (x : AV) (xs : List (List UInt8)) (sep : List UInt8) (hx : vbV9 H x xs) (h1 : (Lib.join xs sep).length ≤ 140737488355328) (h2 : xs.length ≤ 140737488355328) : ka0 Tryz.prog G0 50 [x, .str sep] H (.str (Lib.join xs sep)) H :=
 kcU9 hx (fun a c sep w => Tryz.strings_Join_none a c sep w) (fun bk o c xs sep w h1 h2 h3 h4 h5 => Tryz.strings_Join bk o c xs sep w h1 h2 h3 h4 h5) sep h1 h2
end Go.Proofs
namespace Go.Proofs
open Go Go.V
set_option linter.unusedVariables false
set_option linter.unusedSimpArgs false
set_option maxHeartbeats 0
set_option maxRecDepth 100000
theorem wbv9 (c : UInt8) : PC Tryz.prog G0 150 [.int .u8 (c.toNat : Int)] (.bool (letB c)) := by
 refine xd0 0 17 [.tmp 2] Tryz.func150 rfl rfl rfl (by simp) ?_
 intro s ⟨a0, hz⟩
 clear hz
 repeat' (first|(first|refine nav ?_|(refine g0_ ?_; first|refine ku0 (dr := allQ) rfl rfl mixed (by first|assumption|kernel_rfl) ?_))|(with_reducible refine And.intro (at_go ?_) (at_go ?_))|((with_reducible refine And.intro (fun h => ?_) (fun h => ?_)) <;> try (exfalso; omega))|with_reducible refine andG ?_|simp (disch := try exact discB) only [push_cast, simprocAttr, a0])
 all_goals (congr 1; first|rfl|(rw [Bool.eq_iff_iff]; simp only [letB, digB, wrdB, Bool.or_eq_true, Bool.and_eq_true, decide_eq_true_eq]; omega)|(simp only [letB, digB, wrdB, Bool.or_eq_true, Bool.and_eq_true, decide_eq_true_eq, Bool.eq_false_iff, ne_eq, eq_comm (a := true), eq_comm (a := false), if_pos, if_neg] at *; omega))
theorem vcZ9 (c : UInt8) : PC Tryz.prog G0 166 [.int .u8 (c.toNat : Int)] (.bool (digB c)) := by
 refine xd0 0 9 [.tmp 2] Tryz.func166 rfl rfl rfl (by simp) ?_
 intro s ⟨a0, hz⟩
 clear hz
 repeat' (first|(first|refine nav ?_|(refine g0_ ?_; first|refine ku0 (dr := allQ) rfl rfl mixed (by first|assumption|kernel_rfl) ?_))|(with_reducible refine And.intro (at_go ?_) (at_go ?_))|((with_reducible refine And.intro (fun h => ?_) (fun h => ?_)) <;> try (exfalso; omega))|with_reducible refine andG ?_|simp (disch := try exact discB) only [push_cast, simprocAttr, a0])
 all_goals (congr 1; first|rfl|(rw [Bool.eq_iff_iff]; simp only [letB, digB, wrdB, Bool.or_eq_true, Bool.and_eq_true, decide_eq_true_eq]; omega)|(simp only [letB, digB, wrdB, Bool.or_eq_true, Bool.and_eq_true, decide_eq_true_eq, Bool.eq_false_iff, ne_eq, eq_comm (a := true), eq_comm (a := false), if_pos, if_neg] at *; omega))
theorem wcB9 (c : UInt8) : PC Tryz.prog G0 149 [.int .u8 (c.toNat : Int)] (.bool (wrdB c)) := by
 have h1 := wbv9 c
 have h2 := vcZ9 c
 have hw : wrdB c = (letB c || digB c || decide (c.toNat = 95)) := rfl
 have e : ((c.toNat : Int) = 95) = (c.toNat = 95) := by apply propext; omega
 rw [hw]
 generalize letB c = x at *
 generalize digB c = y at *
 cases x <;> cases y
 all_goals (
  refine xd0 0 13 [.tmp 2] Tryz.func149 rfl rfl rfl (by simp) ?_
  intro s ⟨a0, hz⟩
  clear hz
  repeat' (first|(first|refine nav ?_|(refine g0_ ?_; first|refine ku0 (dr := allQ) rfl rfl mixed (by first|assumption|kernel_rfl) ?_))|(with_reducible refine And.intro (at_go ?_) (at_go ?_))|((with_reducible refine And.intro (fun h => ?_) (fun h => ?_)) <;> try (exfalso; omega))|with_reducible refine andG ?_|(first|(refine ⟨_, _, zl0 h1 (by simp [idsL, idsE, AV.ids]) _, ?_⟩)|(refine ⟨_, zl0 h1 (by simp [idsL, idsE, AV.ids]) _, ?_⟩)|(refine ⟨_, fun _ => zl0 h1 (by simp [idsL, idsE, AV.ids]) _, ?_⟩)|(refine ⟨_, _, zl0 h2 (by simp [idsL, idsE, AV.ids]) _, ?_⟩)|(refine ⟨_, zl0 h2 (by simp [idsL, idsE, AV.ids]) _, ?_⟩)|(refine ⟨_, fun _ => zl0 h2 (by simp [idsL, idsE, AV.ids]) _, ?_⟩)|(refine ⟨AV.str [], ?_⟩; refine waS9 ?_))|simp (disch := try exact discB) only [push_cast, simprocAttr, a0, e]))
def bI (b : Bool) : Int := if b = true then 1 else 0
theorem wds9 (s0 : Bs) (hs : s0.length ≤ 1000000) : PC Tryz.prog G0 126 [.str s0] (.str (wordS s0)) := by
 have e0 := zo0 s0
 have e1 := xcA9 s0
 have e2 := zcA9 s0
 have e3 := vaY9 s0
 rw [← e0]
 generalize (wordS s0).length = L at *
 refine xd0 0 19 [.tmp 2] Tryz.func126 rfl rfl rfl (by simp) ?_
 intro s ⟨a0, hz⟩
 clear hz
 repeat' (first|(first|refine nav ?_|(refine g0_ ?_; first|refine ku0 (dr := allQ) rfl rfl mixed (by first|assumption|kernel_rfl) ?_))|(with_reducible refine And.intro (at_go ?_) (at_go ?_))|((with_reducible refine And.intro (fun h => ?_) (fun h => ?_)) <;> try (exfalso; omega))|with_reducible refine andG ?_|simp (disch := try exact discB) only [push_cast, simprocAttr, a0])
 refine go_loop rfl (fun mz s' H' => ∃ k : Nat, k ≤ L ∧ mz = L - k ∧ H' = [] ∧ s' 0 = .str s0 ∧ s' 3 = .int .i64 k) (m := L) (by first|exact xb0|fail) (Weak.refl _ _) ⟨0, by omega, by omega, rfl, ?_⟩ ?_
 ·(simp (disch := try exact discB) only [push_cast, simprocAttr, a0]) <;> (first|rfl|exact ⟨rfl, rfl⟩|omega|(congr 1; omega)|(simp; done)|((repeat' apply And.intro) <;> first|rfl|omega|(congr 1; omega)))
 ·rintro mz s' H' ⟨k, hk, rfl, rfl, b0, b3⟩
  have h3 := wcB9 (s0.getD k 0)
  rcases Nat.lt_or_ge k L with hlt|hge
  ·obtain ⟨b, hb, hw⟩ := e2 k hlt
   have e4 : s0.getD k 0 = b := by rw [List.getD_eq_getElem?_getD, hb]; rfl
   rw [e4, hw] at h3
   repeat' (first|(first|refine nav ?_|(refine g0_ ?_; first|refine ku0 (dr := allQ) rfl rfl mixed (by first|assumption|kernel_rfl) ?_))|(with_reducible refine And.intro (at_go ?_) (at_go ?_))|((with_reducible refine And.intro (fun h => ?_) (fun h => ?_)) <;> try (exfalso; omega))|with_reducible refine andG ?_|(first|(refine ⟨_, _, zl0 h3 (by simp [idsL, idsE, AV.ids]) _, ?_⟩)|(refine ⟨_, zl0 h3 (by simp [idsL, idsE, AV.ids]) _, ?_⟩)|(refine ⟨_, fun _ => zl0 h3 (by simp [idsL, idsE, AV.ids]) _, ?_⟩))|simp (disch := try exact discB) only [push_cast, simprocAttr, b0, b3, e4])
   refine zb0 (L - (k + 1)) (by omega) (by first|exact xb0|fail) ⟨k + 1, by omega, rfl, rfl, ?_⟩
   simp (disch := try exact discB) only [push_cast, simprocAttr, b0, b3, e4]
  ·obtain rfl : k = L := by omega
   rcases Nat.lt_or_ge k s0.length with hlt|hge2
   ·rcases e3 with q|⟨b, hb, hw⟩
    ·rw [getD_some hlt] at q; cases q
    ·have e4 : s0.getD k 0 = b := by rw [List.getD_eq_getElem?_getD, hb]; rfl
     rw [e4, hw] at h3
     repeat' (first|(first|refine nav ?_|(refine g0_ ?_; first|refine ku0 (dr := allQ) rfl rfl mixed (by first|assumption|kernel_rfl) ?_))|(with_reducible refine And.intro (at_go ?_) (at_go ?_))|((with_reducible refine And.intro (fun h => ?_) (fun h => ?_)) <;> try (exfalso; omega))|with_reducible refine andG ?_|(first|(refine ⟨_, _, zl0 h3 (by simp [idsL, idsE, AV.ids]) _, ?_⟩)|(refine ⟨_, zl0 h3 (by simp [idsL, idsE, AV.ids]) _, ?_⟩)|(refine ⟨_, fun _ => zl0 h3 (by simp [idsL, idsE, AV.ids]) _, ?_⟩))|simp (disch := try exact discB) only [push_cast, simprocAttr, b0, b3, e4])
     all_goals first|omega|rfl
   ·obtain rfl : k = s0.length := by omega
    repeat' (first|(first|refine nav ?_|(refine g0_ ?_; first|refine ku0 (dr := allQ) rfl rfl mixed (by first|assumption|kernel_rfl) ?_))|(with_reducible refine And.intro (at_go ?_) (at_go ?_))|((with_reducible refine And.intro (fun h => ?_) (fun h => ?_)) <;> try (exfalso; omega))|with_reducible refine andG ?_|simp (disch := try exact discB) only [push_cast, simprocAttr, b0, b3])
end Go.Proofs
