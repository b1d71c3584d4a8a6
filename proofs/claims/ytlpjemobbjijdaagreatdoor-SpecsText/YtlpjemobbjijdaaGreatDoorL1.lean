import Derived.Test.YtlpjemobbjijdaaGreatDoorAP9
import Derived.Test.YtlpjemobbjijdaaGreatDoorST
import Derived.Test.YtlpjemobbjijdaaGreatDoorV33
import Derived.Test.YtlpjemobbjijdaaGreatDoorV51
import Derived.Test.YtlpjemobbjijdaaGreatDoorV63
import Derived.Test.YtlpjemobbjijdaaGreatDoorV69
import Derived.Test.YtlpjemobbjijdaaGreatDoorLP2
import Derived.Test.YtlpjemobbjijdaaGreatDoorSShelf
import Derived.Shelf.Strings.SlTrimAscii
namespace Go.Proofs
set_option linter.unusedVariables false
end Go.Proofs
namespace Go.Proofs
open Go Go.V
set_option linter.unusedVariables false
set_option linter.unusedSimpArgs false
def kbq9 : List AV := [.str [45, 62], .str [60, 61], .str [62, 61], .str [33, 61], .str [58, 61]]
def G0 : Glob := fun g => match g with|0 => some [.anyi .i64]|1 => some kbq9|_ => none
theorem G0_1 : G0 1 = some kbq9 := rfl
def tkA (t : Tk) : List AV := [.int .u8 t.k, .str t.t, .int .i64 t.l, .int .i64 t.c]
def tks (l : List Tk) : List (List AV) := l.map tkA
theorem xg0 (l : List Tk) : (tks l).length = l.length := by simp [tks]
theorem vV0 (l : List Tk) (k : Nat) (h : k < l.length) : (tks l).getD k [] = tkA (l.getD k tk0) := by simp [tks, h]
theorem zJ0 (p : Nat → Bool) (l : List Tk) : idsE p (tks l) = true := ky0 _ _ fun x => by simp [tkA, idsL, AV.ids]
theorem xa0 (p : Nat → Bool) (ps : List (List UInt8)) : idsE p (strs ps) = true := ky0 _ _ fun x => by simp [idsL, AV.ids]
theorem vq0 {p : Nat → Bool} {es : List (List AV)} (h : idsE p es = true) : (es.all fun e => e.all fun x => AV.ids p x) = true := by
 have hl : ∀ e : List AV, idsL p e = true → (e.all fun x => AV.ids p x) = true := fun e => by
  induction e with
  | nil => intro _; rfl
  | cons x xs ih => intro h; rw [idsL, Bool.and_eq_true] at h; rw [List.all_cons, h.1, ih h.2]; rfl
 induction es with
 | nil => rfl
 | cons e es ih => rw [idsE, Bool.and_eq_true] at h; rw [List.all_cons, hl e h.1, ih h.2]; rfl
theorem vbY9 (p : Nat → Bool) (l : List Tk) : ((tks l).all fun e => e.all fun x => AV.ids p x) = true := vq0 (zJ0 p l)
theorem qbr9 (p : Nat → Bool) (l : List (List UInt8)) : ((strs l).all fun e => e.all fun x => AV.ids p x) = true := vq0 (xa0 p l)
theorem qcS9 : tks [] = [] := rfl
theorem zbr9 : strs [] = [] := rfl
theorem zcv9 (l : List Tk) (x : Tk) : tks l ++ [tkA x] = tks (l ++ [x]) := by simp [tks]
theorem wa0 (ps : List (List UInt8)) : (strs ps).length = ps.length := by simp [strs]
theorem vd0 (ps : List (List UInt8)) (k : Nat) (h : k < ps.length) : (strs ps).getD k [] = [.str (ps.getD k [])] := by simp [strs, h]
theorem kbY9 (n : Int) (h1 : -9223372036854775808 ≤ n) (h2 : n < 9223372036854775808) : IntKind.i64.wrap n = n := by rw [IntKind.wrap_i64]; omega
theorem vC0 {α : Type} {l r : List α} (d : α) (h : l.length = r.length) (hh : ∀ j, j < l.length → l.getD j d = r.getD j d) : l = r := by
 refine List.ext_getElem h fun j h1 h2 => ?_
 have := hh j h1
 simpa [h1, h2] using this
theorem wj0 {α : Type} {l : List α} {k : Nat} (d : α) (h : k < l.length) : l.getD k d ∈ l := by
 rw [List.getD_eq_getElem?_getD, List.getElem?_eq_getElem h]; exact List.getElem_mem h
theorem getD_some {l : List UInt8} {k : Nat} (h : k < l.length) : l[k]? = some (l.getD k 0) := by simp [h]
abbrev Edg := Int × Int
abbrev Row := List Edg × Option Nat
def eA (e : Edg) : List AV := [.int .i64 e.1, .int .i64 e.2]
def rowA (r : List Edg) : List (List AV) := r.map eA
def vc0 (l : List Row) : List (List AV) := l.map fun r => [.sl 2 (rowA r.1) r.2]
def ints (xs : List Int) : List (List AV) := xs.map fun x => [.int .i64 x]
theorem wg0 (r : List Edg) : (rowA r).length = r.length := by simp [rowA]
theorem vn0 (l : List Row) : (vc0 l).length = l.length := by simp [vc0]
theorem wx0 (xs : List Int) : (ints xs).length = xs.length := by simp [ints]
theorem qp0 (r : List Edg) (k : Nat) (h : k < r.length) : (rowA r).getD k [] = eA (r.getD k (0, 0)) := by simp [rowA, h]
theorem kn0 (l : List Row) (k : Nat) (h : k < l.length) : (vc0 l).getD k [] = [.sl 2 (rowA (l.getD k ([], none)).1) (l.getD k ([], none)).2] := by simp [vc0, h]
theorem kV0 (xs : List Int) (k : Nat) (h : k < xs.length) : (ints xs).getD k [] = [.int .i64 (xs.getD k 0)] := by simp [ints, h]
theorem vk0 (p : Nat → Bool) (r : List Edg) : idsE p (rowA r) = true := ky0 _ _ fun x => by simp [eA, idsL, AV.ids]
theorem kf0 (p : Nat → Bool) (l : List Row) : idsE p (vc0 l) = true := ky0 _ _ fun x => by simp [idsL, AV.ids, vk0]
theorem zp0 (p : Nat → Bool) (xs : List Int) : idsE p (ints xs) = true := ky0 _ _ fun x => by simp [idsL, AV.ids]
theorem kar9 (p : Nat → Bool) (a b : List (List AV)) : idsE p (a ++ b) = (idsE p a && idsE p b) := by
 induction a with
 | nil => simp [idsE]
 | cons x xs ih => simp [idsE, ih, Bool.and_assoc]
theorem xcv9 (p : Nat → Bool) (r : List Edg) : ((rowA r).all fun e => e.all fun x => AV.ids p x) = true := vq0 (vk0 p r)
theorem qbZ9 (p : Nat → Bool) (l : List Row) : ((vc0 l).all fun e => e.all fun x => AV.ids p x) = true := vq0 (kf0 p l)
theorem wcv9 (p : Nat → Bool) (xs : List Int) : ((ints xs).all fun e => e.all fun x => AV.ids p x) = true := vq0 (zp0 p xs)
theorem vcv9 : ints [] = [] := rfl
theorem wab9 {P : Nat → Prop} {k : Nat} (h : ∀ j, j < k → P j) (hk : P k) : ∀ j, j < k + 1 → P j := fun j hj => by
 rcases Nat.lt_or_ge j k with q|q
 ·exact h j q
 ·obtain rfl : j = k := by omega
  exact hk
def mA (i o : Int) (l : List Row) (c : Option Nat) : AV := .agg [.int .i64 i, .int .i64 o, .sl 1 (vc0 l) c]
theorem zcE9 {P : Program} {t : TypeId} {T : TI} (h : qa0 P t = some T) : shp P t = T.shape := by simp [shp, h]
theorem qdk9 (d : Nat) (a b : Int) : eqA Tryz.prog (d + 1) 3 (.int .i64 a) (.int .i64 b) = (true, decide (a = b)) := vcN9 (zcE9 ti3) a b
theorem zdk9 (d : Nat) (a b a' b' : Int) : eqA Tryz.prog (d + 2) 70 (.agg [.int .i64 a, .int .i64 b]) (.agg [.int .i64 a', .int .i64 b']) = (true, decide (a = a') && decide (b = b')) := by
 rw [zbA9 (zcE9 ti70)]
 simp only [List.foldr_cons, List.foldr_nil, ti3, xbA9]
 simp [qdk9, cut, xp0]
theorem eq3 (a b : Int) : eqA Tryz.prog 8 3 (.int .i64 a) (.int .i64 b) = (true, decide (a = b)) := qdk9 7 a b
theorem eq70 (a b a' b' : Int) : eqA Tryz.prog 8 70 (.agg [.int .i64 a, .int .i64 b]) (.agg [.int .i64 a', .int .i64 b']) = (true, decide (a = a') && decide (b = b')) := zdk9 6 a b a' b'
theorem lenS {α : Type} : (∀ (l : List α) (i : Nat) (a : α), (l.set i a).length = l.length) ∧ (∀ l : List α, l.reverse.length = l.length) ∧ (∀ (n : Nat) (a : α), (List.replicate n a).length = n) ∧ (∀ l r : List α, (l ++ r).length = l.length + r.length) ∧ (∀ (a : α) (l : List α), (a :: l).length = l.length + 1) ∧ (([] : List α).length = 0) ∧ (∀ (n : Nat) (l : List α), (l.take n).length = min n l.length) ∧ (∀ (n : Nat) (l : List α), (l.drop n).length = l.length - n) := by
 refine ⟨?_, ?_, ?_, ?_, ?_, ?_, ?_, ?_⟩ <;> intros <;> simp
theorem lenF : (∀ xs, (ints xs).length = xs.length) ∧ (∀ r, (rowA r).length = r.length) ∧ (∀ l, (vc0 l).length = l.length) ∧ (∀ l, (tks l).length = l.length) ∧ (∀ l, (strs l).length = l.length) := ⟨wx0, wg0, vn0, xg0, wa0⟩
theorem xb0 {p : Prop} (h : p := by first|trivial|((repeat' apply And.intro) <;> first|trivial|assumption|omega|(simp only [maxLen]; omega)|(simp only [lenF, lenS, List.length_map, maxLen] <;> omega))) : p := h
theorem discB {p : Prop} (h : p := by first|omega|(simp only [lenF, lenS, List.length_map]; omega)) : p := h
attribute [simp] zJ0 xa0 vk0 kf0 zp0 kar9
attribute [push_cast] zJ0 xa0 vbY9 qbr9 xg0 wa0 xcv9 qbZ9 wcv9 wg0 vn0 wx0 kbY9 eq3 eq70 Bool.eq_true_or_eq_false_self Bool.eq_false_or_eq_true_self Bool.not_or_self Bool.or_not_self Bool.and_self Bool.or_self Bool.not_not Bool.and_not_self Bool.not_and_self
attribute [push_cast] ti1 ti2 ti3 ti4 ti5 ti6 ti7 ti8 ti9 ti10 ti11 ti12 ti13 ti14 ti15 ti16 ti17 ti18 ti19 ti20 ti21 ti22 ti23 ti24 ti25 ti26 ti27 ti28 ti29 ti30 ti31 ti33 ti34 ti35 ti36 ti38 ti39 ti40 ti41 ti42 ti43 ti44 ti45 ti46 ti47 ti49 ti50 ti51 ti53 ti54 ti55 ti56 ti57 ti58 ti59 ti60 ti61 ti63 ti64 ti65 ti66 ti67 ti68 ti69 ti70 et70 ti71 ti72 ti73 ti74 ti75 ti76 ti77 ti78 ti79 ti80 ti81 ti82 ti83 ti84 ti85 ti86 ti87 ti88 ti89 ti90 ti91 ti93 ti94 ti95 ti96 ti97 ti98 ti99 wdt9 vdt9 kdt9 qdu9 zdu9 xdu9 wdu9 vdu9 kdu9 qdv9 zdv9 xdv9 wdv9 vdv9 kdv9 qdw9 zdw9 xdw9 wdw9 vdw9 kdw9 qdx9 zdx9 xdx9 wdx9 vdx9 kdx9 qdy9 zdy9 xdy9 wdy9 vdy9 kdy9 qdz9 zdz9 xdz9 wdz9 vdz9 kdz9 qdA9 zdA9 xdA9 wdA9 vdA9 kdA9 qdB9 zdB9 xdB9 wdB9 vdB9 kdB9 qdC9 zdC9 xdC9 wdC9 vdC9 kdC9 qdD9 zdD9 xdD9 wdD9 vdD9 kdD9 qdE9 zdE9 xdE9 wdE9 vdE9 kdE9 qdF9 zdF9 xdF9 wdF9 vdF9 kdF9 qdG9 zdG9 xdG9 wdG9 vdG9 kdG9 qdH9 zdH9 xdH9 wdH9 vdH9 kdH9 qdI9 zdI9 xdI9 wdI9 vdI9 kdI9 qdJ9 zdJ9 xdJ9 wdJ9 vdJ9 kdJ9 qdK9 zdK9 xdK9 wdK9 vdK9 kdK9 qdL9 zdL9 xdL9 wdL9 vdL9 kdL9 qdM9 zdM9 xdM9 wdM9 vdM9 kdM9 qdN9 zdN9 xdN9 wdN9 vdN9 kdN9 qdO9 zdO9 xdO9 en2 en3 en4 en5 en6 en7 en8 en9 en10 en11 en12 en13 en14 en15 en16 en17 en18 en19 en20 en21 en22 en23 en24 en25 en26 en27 en28 en29 en30 en31 en32 en33 en34 en35 en36 en37 en38 en39 en40 en41 en42 en43 en44 en45 en46 en47 en48 en49 en50 en51 en52 en53 en54 en55 en56 en57 en58 en59 en60 en61 en62 en63 en64 en65 en66 en67 en68 en69 en70 en71 en72 en73 en74 en75 en76 en77 en78 en79 en80 en81 en82 en83 en84 en85 en86 en87 en88 en89 en90 en91 en92 en93 en94 en95 en96 en97 en98 en99 wdO9 vdO9 kdO9 zaJ9 xct9 wct9 qdP9 qbE9 kaq9 zdP9 xdP9 wdP9 vdP9 kdP9 qdQ9 zdQ9 xdQ9 wdQ9 vdQ9 kdQ9 qdR9 zdR9 xdR9 wdR9 vdR9 kdR9 qdS9 vct9 zdS9 xdS9 wdS9 vdS9 kdS9 qdT9 zdT9 xdT9 wdT9 vdT9 kdT9 qdU9 zdU9 xdU9 wdU9 vdU9 kdU9 qdV9 zdV9 xdV9 wdV9 vdV9 kdV9 qdW9 zdW9 xdW9 wdW9 vdW9 kdW9 qdX9 zdX9 xdX9 wdX9 vdX9 kdX9 qdY9 zdY9 xdY9 wdY9 vdY9 kdY9 qdZ9 zdZ9 xdZ9 wdZ9 vdZ9
end Go.Proofs
namespace Go.Proofs
open Go Go.V
set_option linter.unusedVariables false
set_option linter.unusedSimpArgs false
set_option maxHeartbeats 0
set_option maxRecDepth 100000
theorem vbE9 (H : List Blk) (s p : List UInt8) : ka0 Tryz.prog G0 152 [.str s, .str p] H (.bool (Lib.hasPrefix s p)) H := wbU9 Tryz.strings_HasPrefix s p
theorem xdk9 (H : List Blk) (s : List UInt8) (c : UInt8) (n : Int) (hn : n = (c.toNat : Int)) : ka0 Tryz.prog G0 125 [.str s, .int .u8 n] H (.int .i64 (Lib.indexByte s c)) H := zcq9 Tryz.strings_IndexByte s c n hn
theorem wdk9 (H : List Blk) (s : List UInt8) (hs : s.length ≤ 1000000) : ka0 Tryz.prog G0 99 [.str s, .int .u8 10] H (.int .i64 (Lib.lastIndexByte ⟨s.toArray⟩ 10)) H := zaU9 Tryz.strings_LastIndexByte s 10 (by omega)
theorem zea9 (H : List Blk) (s : List UInt8) : ka0 Tryz.prog G0 98 [.str s, .str [10]] H (.int .i64 ((s.count 10 : Nat) : Int)) H := xcq9 Tryz.strings_Count_one s 10
theorem vdk9 (H : List Blk) (s : List UInt8) : ka0 Tryz.prog G0 151 [.str s, .str [48, 49, 50, 51, 52, 53, 54, 55, 56, 57]] H (.str (Lib.trimLeftS s [48, 49, 50, 51, 52, 53, 54, 55, 56, 57])) H := wbf9 (fun s c w h1 h2 => Any.strings_TrimLeft_laid Tryz.lays161 (by kernel_rfl) s c w h1 h2) s _ (by decide) (by decide)
theorem waW9 (H : List Blk) (x : AV) (xs : List (List UInt8)) (sep : List UInt8) (hx : qbR9 H x xs) (h1 : (Lib.join xs sep).length ≤ 140737488355328) (h2 : xs.length ≤ 140737488355328) : ka0 Tryz.prog G0 50 [x, .str sep] H (.str (Lib.join xs sep)) H :=
 qcO9 hx (fun a c sep w => Tryz.strings_Join_none a c sep w) (fun bk o c xs sep w h1 h2 h3 h4 h5 => Tryz.strings_Join bk o c xs sep w h1 h2 h3 h4 h5) sep h1 h2
end Go.Proofs
namespace Go.Proofs
open Go Go.V
set_option linter.unusedVariables false
set_option linter.unusedSimpArgs false
set_option maxHeartbeats 0
set_option maxRecDepth 100000
theorem xbr9 (c : UInt8) : PC Tryz.prog G0 150 [.int .u8 (c.toNat : Int)] (.bool (letB c)) := by
 refine zd0 0 17 [.tmp 2] Tryz.func150 rfl rfl rfl (by simp) ?_
 intro s ⟨a0, hz⟩
 clear hz
 repeat' (first|(first|refine nav ?_|(refine g0_ ?_; first|refine qu0 (dr := allQ) rfl rfl mixed (by first|assumption|kernel_rfl) ?_))|(with_reducible refine And.intro (at_go ?_) (at_go ?_))|((with_reducible refine And.intro (fun h => ?_) (fun h => ?_)) <;> try (exfalso; omega))|with_reducible refine andG ?_|simp (disch := try exact discB) only [push_cast, simprocAttr, a0])
 all_goals (congr 1; first|rfl|(rw [Bool.eq_iff_iff]; simp only [letB, digB, wrdB, Bool.or_eq_true, Bool.and_eq_true, decide_eq_true_eq]; omega)|(simp only [letB, digB, wrdB, Bool.or_eq_true, Bool.and_eq_true, decide_eq_true_eq, Bool.eq_false_iff, ne_eq, eq_comm (a := true), eq_comm (a := false), if_pos, if_neg] at *; omega))
theorem zcS9 (c : UInt8) : PC Tryz.prog G0 166 [.int .u8 (c.toNat : Int)] (.bool (digB c)) := by
 refine zd0 0 9 [.tmp 2] Tryz.func166 rfl rfl rfl (by simp) ?_
 intro s ⟨a0, hz⟩
 clear hz
 repeat' (first|(first|refine nav ?_|(refine g0_ ?_; first|refine qu0 (dr := allQ) rfl rfl mixed (by first|assumption|kernel_rfl) ?_))|(with_reducible refine And.intro (at_go ?_) (at_go ?_))|((with_reducible refine And.intro (fun h => ?_) (fun h => ?_)) <;> try (exfalso; omega))|with_reducible refine andG ?_|simp (disch := try exact discB) only [push_cast, simprocAttr, a0])
 all_goals (congr 1; first|rfl|(rw [Bool.eq_iff_iff]; simp only [letB, digB, wrdB, Bool.or_eq_true, Bool.and_eq_true, decide_eq_true_eq]; omega)|(simp only [letB, digB, wrdB, Bool.or_eq_true, Bool.and_eq_true, decide_eq_true_eq, Bool.eq_false_iff, ne_eq, eq_comm (a := true), eq_comm (a := false), if_pos, if_neg] at *; omega))
theorem kcv9 (c : UInt8) : PC Tryz.prog G0 149 [.int .u8 (c.toNat : Int)] (.bool (wrdB c)) := by
 have h1 := xbr9 c
 have h2 := zcS9 c
 have hw : wrdB c = (letB c || digB c || decide (c.toNat = 95)) := rfl
 have e : ((c.toNat : Int) = 95) = (c.toNat = 95) := by apply propext; omega
 rw [hw]
 generalize letB c = x at *
 generalize digB c = y at *
 cases x <;> cases y
 all_goals (
  refine zd0 0 13 [.tmp 2] Tryz.func149 rfl rfl rfl (by simp) ?_
  intro s ⟨a0, hz⟩
  clear hz
  repeat' (first|(first|refine nav ?_|(refine g0_ ?_; first|refine qu0 (dr := allQ) rfl rfl mixed (by first|assumption|kernel_rfl) ?_))|(with_reducible refine And.intro (at_go ?_) (at_go ?_))|((with_reducible refine And.intro (fun h => ?_) (fun h => ?_)) <;> try (exfalso; omega))|with_reducible refine andG ?_|(first|(refine ⟨_, _, xk0 h1 (by simp [idsL, idsE, AV.ids]) _, ?_⟩)|(refine ⟨_, xk0 h1 (by simp [idsL, idsE, AV.ids]) _, ?_⟩)|(refine ⟨_, fun _ => xk0 h1 (by simp [idsL, idsE, AV.ids]) _, ?_⟩)|(refine ⟨_, _, xk0 h2 (by simp [idsL, idsE, AV.ids]) _, ?_⟩)|(refine ⟨_, xk0 h2 (by simp [idsL, idsE, AV.ids]) _, ?_⟩)|(refine ⟨_, fun _ => xk0 h2 (by simp [idsL, idsE, AV.ids]) _, ?_⟩)|(refine ⟨AV.str [], ?_⟩; refine qaQ9 ?_))|simp (disch := try exact discB) only [push_cast, simprocAttr, a0, e]))
def bI (b : Bool) : Int := if b = true then 1 else 0
theorem kdk9 (s0 : Bs) (hs : s0.length ≤ 1000000) : PC Tryz.prog G0 126 [.str s0] (.str (wordS s0)) := by
 have e0 := wn0 s0
 have e1 := vcu9 s0
 have e2 := wcu9 s0
 have e3 := zaW9 s0
 rw [← e0]
 generalize (wordS s0).length = L at *
 refine zd0 0 19 [.tmp 2] Tryz.func126 rfl rfl rfl (by simp) ?_
 intro s ⟨a0, hz⟩
 clear hz
 repeat' (first|(first|refine nav ?_|(refine g0_ ?_; first|refine qu0 (dr := allQ) rfl rfl mixed (by first|assumption|kernel_rfl) ?_))|(with_reducible refine And.intro (at_go ?_) (at_go ?_))|((with_reducible refine And.intro (fun h => ?_) (fun h => ?_)) <;> try (exfalso; omega))|with_reducible refine andG ?_|simp (disch := try exact discB) only [push_cast, simprocAttr, a0])
 refine go_loop rfl (fun mz s' H' => ∃ k : Nat, k ≤ L ∧ mz = L - k ∧ H' = [] ∧ s' 0 = .str s0 ∧ s' 3 = .int .i64 k) (m := L) (by first|exact xb0|fail) (Weak.refl _ _) ⟨0, by omega, by omega, rfl, ?_⟩ ?_
 ·(simp (disch := try exact discB) only [push_cast, simprocAttr, a0]) <;> (first|rfl|exact ⟨rfl, rfl⟩|omega|(congr 1; omega)|(simp; done)|((repeat' apply And.intro) <;> first|rfl|omega|(congr 1; omega)))
 ·rintro mz s' H' ⟨k, hk, rfl, rfl, b0, b3⟩
  have h3 := kcv9 (s0.getD k 0)
  rcases Nat.lt_or_ge k L with hlt|hge
  ·obtain ⟨b, hb, hw⟩ := e2 k hlt
   have e4 : s0.getD k 0 = b := by rw [List.getD_eq_getElem?_getD, hb]; rfl
   rw [e4, hw] at h3
   repeat' (first|(first|refine nav ?_|(refine g0_ ?_; first|refine qu0 (dr := allQ) rfl rfl mixed (by first|assumption|kernel_rfl) ?_))|(with_reducible refine And.intro (at_go ?_) (at_go ?_))|((with_reducible refine And.intro (fun h => ?_) (fun h => ?_)) <;> try (exfalso; omega))|with_reducible refine andG ?_|(first|(refine ⟨_, _, xk0 h3 (by simp [idsL, idsE, AV.ids]) _, ?_⟩)|(refine ⟨_, xk0 h3 (by simp [idsL, idsE, AV.ids]) _, ?_⟩)|(refine ⟨_, fun _ => xk0 h3 (by simp [idsL, idsE, AV.ids]) _, ?_⟩))|simp (disch := try exact discB) only [push_cast, simprocAttr, b0, b3, e4])
   refine zb0 (L - (k + 1)) (by omega) (by first|exact xb0|fail) ⟨k + 1, by omega, rfl, rfl, ?_⟩
   simp (disch := try exact discB) only [push_cast, simprocAttr, b0, b3, e4]
  ·obtain rfl : k = L := by omega
   rcases Nat.lt_or_ge k s0.length with hlt|hge2
   ·rcases e3 with q|⟨b, hb, hw⟩
    ·rw [getD_some hlt] at q; cases q
    ·have e4 : s0.getD k 0 = b := by rw [List.getD_eq_getElem?_getD, hb]; rfl
     rw [e4, hw] at h3
     repeat' (first|(first|refine nav ?_|(refine g0_ ?_; first|refine qu0 (dr := allQ) rfl rfl mixed (by first|assumption|kernel_rfl) ?_))|(with_reducible refine And.intro (at_go ?_) (at_go ?_))|((with_reducible refine And.intro (fun h => ?_) (fun h => ?_)) <;> try (exfalso; omega))|with_reducible refine andG ?_|(first|(refine ⟨_, _, xk0 h3 (by simp [idsL, idsE, AV.ids]) _, ?_⟩)|(refine ⟨_, xk0 h3 (by simp [idsL, idsE, AV.ids]) _, ?_⟩)|(refine ⟨_, fun _ => xk0 h3 (by simp [idsL, idsE, AV.ids]) _, ?_⟩))|simp (disch := try exact discB) only [push_cast, simprocAttr, b0, b3, e4])
     all_goals first|omega|rfl
   ·obtain rfl : k = s0.length := by omega
    repeat' (first|(first|refine nav ?_|(refine g0_ ?_; first|refine qu0 (dr := allQ) rfl rfl mixed (by first|assumption|kernel_rfl) ?_))|(with_reducible refine And.intro (at_go ?_) (at_go ?_))|((with_reducible refine And.intro (fun h => ?_) (fun h => ?_)) <;> try (exfalso; omega))|with_reducible refine andG ?_|simp (disch := try exact discB) only [push_cast, simprocAttr, b0, b3])
end Go.Proofs
