import Derived.Test.YtbgdagokjfmcbaaDoorDT
import Derived.Test.YtbgdagokjfmcbaaDoorV33
import Derived.Test.YtbgdagokjfmcbaaDoorV50
import Derived.Test.YtbgdagokjfmcbaaDoorV57
namespace Go.Proofs
open Go Go.V
set_option linter.unusedVariables false
set_option linter.unusedSimpArgs false
def G0 : Glob := fun g => match g with|0 => some [.int .i64 (-1), .int .i64 (-1)]|1 => some zcL9|_ => none
theorem G0_0 : G0 0 = some [.int .i64 (-1), .int .i64 (-1)] := rfl
abbrev Edg := Int × Int
abbrev Row := List Edg × Option Nat
def eA (e : Edg) : List AV := [.int .i64 e.1, .int .i64 e.2]
def rowA (r : List Edg) : List (List AV) := r.map eA
def xb0 (l : List Row) : List (List AV) := l.map fun r => [.sl 2 (rowA r.1) r.2]
def ints (xs : List Int) : List (List AV) := xs.map fun x => [.int .i64 x]
structure Ed where
 s : Int
 i : Int
 old : Edg
 new : Edg
 deriving DecidableEq
def xA (x : Ed) : List AV := [.int .i64 x.s, .int .i64 x.i, .int .i64 x.old.1, .int .i64 x.old.2, .int .i64 x.new.1, .int .i64 x.new.2]
def edsA (l : List Ed) : List (List AV) := l.map xA
theorem za0 (r : List Edg) : (rowA r).length = r.length := by simp [rowA]
theorem wa0 (l : List Row) : (xb0 l).length = l.length := by simp [xb0]
theorem zb0 (xs : List Int) : (ints xs).length = xs.length := by simp [ints]
theorem xa0 (l : List Ed) : (edsA l).length = l.length := by simp [edsA]
theorem zg0 (r : List Edg) (k : Nat) (h : k < r.length) : (rowA r).getD k [] = eA (r.getD k (0, 0)) := by simp [rowA, h]
theorem xf0 (l : List Row) (k : Nat) (h : k < l.length) : (xb0 l).getD k [] = [.sl 2 (rowA (l.getD k ([], none)).1) (l.getD k ([], none)).2] := by simp [xb0, h]
theorem wc0 (xs : List Int) (k : Nat) (h : k < xs.length) : (ints xs).getD k [] = [.int .i64 (xs.getD k 0)] := by simp [ints, h]
theorem qK0 (l : List Ed) (k : Nat) (h : k < l.length) : (edsA l).getD k [] = xA (l.getD k ⟨0, 0, (0, 0), (0, 0)⟩) := by simp [edsA, h]
theorem wj0 (p : Nat → Bool) (r : List Edg) : idsE p (rowA r) = true := zn0 _ _ fun x => by simp [eA, idsL, AV.ids]
theorem ke0 (p : Nat → Bool) (l : List Row) : idsE p (xb0 l) = true := zn0 _ _ fun x => by simp [idsL, AV.ids, wj0]
theorem wl0 (p : Nat → Bool) (xs : List Int) : idsE p (ints xs) = true := zn0 _ _ fun x => by simp [idsL, AV.ids]
theorem wh0 (p : Nat → Bool) (l : List Ed) : idsE p (edsA l) = true := zn0 _ _ fun x => by simp [xA, idsL, AV.ids]
theorem qav9 (p : Nat → Bool) (a b : List (List AV)) : idsE p (a ++ b) = (idsE p a && idsE p b) := by
 induction a with
 | nil => simp [idsE]
 | cons x xs ih => simp [idsE, ih, Bool.and_assoc]
theorem xo0 {p : Nat → Bool} {es : List (List AV)} (h : idsE p es = true) : (es.all fun e => e.all fun x => AV.ids p x) = true := by
 have hl : ∀ e : List AV, idsL p e = true → (e.all fun x => AV.ids p x) = true := fun e => by
  induction e with
  | nil => intro _; rfl
  | cons x xs ih => intro h; rw [idsL, Bool.and_eq_true] at h; rw [List.all_cons, h.1, ih h.2]; rfl
 induction es with
 | nil => rfl
 | cons e es ih => rw [idsE, Bool.and_eq_true] at h; rw [List.all_cons, hl e h.1, ih h.2]; rfl
theorem kcy9 (p : Nat → Bool) (r : List Edg) : ((rowA r).all fun e => e.all fun x => AV.ids p x) = true := xo0 (wj0 p r)
theorem xcb9 (p : Nat → Bool) (l : List Row) : ((xb0 l).all fun e => e.all fun x => AV.ids p x) = true := xo0 (ke0 p l)
theorem qcz9 (p : Nat → Bool) (xs : List Int) : ((ints xs).all fun e => e.all fun x => AV.ids p x) = true := xo0 (wl0 p xs)
theorem zcz9 (p : Nat → Bool) (l : List Ed) : ((edsA l).all fun e => e.all fun x => AV.ids p x) = true := xo0 (wh0 p l)
theorem wk0 : edsA [] = [] := rfl
theorem xcz9 : rowA [] = [] := rfl
theorem wcb9 : xb0 [] = [] := rfl
theorem zav9 (xs : List Edg) (x : Edg) : rowA xs ++ [eA x] = rowA (xs ++ [x]) := by simp [rowA]
theorem qh0 (n : Int) (h1 : -9223372036854775808 ≤ n) (h2 : n < 9223372036854775808) : IntKind.i64.wrap n = n := by rw [IntKind.wrap_i64]; omega
theorem zaN9 {P : Nat → Prop} {k : Nat} (h : ∀ j, j < k → P j) (hk : P k) : ∀ j, j < k + 1 → P j := fun j hj => by
 rcases Nat.lt_or_ge j k with q|q
 ·exact h j q
 ·obtain rfl : j = k := by omega
  exact hk
theorem qab9 {α : Type} {l r : List α} (d : α) (h : l.length = r.length) (hh : ∀ j, j < l.length → l.getD j d = r.getD j d) : l = r := by
 refine List.ext_getElem h fun j h1 h2 => ?_;have := hh j h1;simpa [h1, h2] using this
theorem wn0 {α β : Type} (f : α → β) (l : List α) (d : α) (k : Nat) (h : k < l.length) : (l.take (k + 1)).map f = (l.take k).map f ++ [f (l.getD k d)] := by
 rw [List.take_succ_eq_append_getElem h, List.map_append]; simp [h]
def mA (i o : Int) (l : List Row) (c : Option Nat) : AV := .agg [.int .i64 i, .int .i64 o, .sl 1 (xb0 l) c]
structure Pt where
 inp : Int
 o0 : Int
 o1 : Int
 s0 : Int
 s1 : Int
 ed : List Ed
 deriving DecidableEq
def pA (p : Pt) (z : Nat) (c : Option Nat) : AV := .agg [.int .i64 p.inp, .int .i64 p.o0, .int .i64 p.o1, .int .i64 p.s0, .int .i64 p.s1, .sl z (edsA p.ed) c]
theorem xbw9 {P : Program} {t : TypeId} {T : TI} (h : kc0 P t = some T) : shp P t = T.shape := by simp [shp, h]
theorem wcz9 (d : Nat) (a b : Int) : eqA Tryd.prog (d + 1) 3 (.int .i64 a) (.int .i64 b) = (true, decide (a = b)) := kcW9 (xbw9 ti3) a b
theorem kcL9 (d : Nat) (a b a' b' : Int) : eqA Tryd.prog (d + 2) 91 (.agg [.int .i64 a, .int .i64 b]) (.agg [.int .i64 a', .int .i64 b']) = (true, decide (a = a') && decide (b = b')) := by
 rw [waE9 (xbw9 ti91)];simp only [List.foldr_cons, List.foldr_nil, ti3, waf9];simp [wcz9, cut, kq0]
theorem vdp9 (d : Nat) (a b a' b' : Int) : eqA Tryd.prog (d + 2) 33 (.agg [.int .i64 a, .int .i64 b]) (.agg [.int .i64 a', .int .i64 b']) = (true, decide (a = a') && decide (b = b')) := by
 rw [zbX9 (xbw9 ti33) ti3];simp only [List.range_succ, List.range_zero, List.nil_append, List.cons_append, List.foldr_cons, List.foldr_nil, waf9];simp [wcz9, cut, kq0]
theorem kdp9 (d : Nat) (a b c e f g a' b' c' e' f' g' : Int) : eqA Tryd.prog (d + 3) 93 (.agg [.int .i64 a, .int .i64 b, .int .i64 c, .int .i64 e, .int .i64 f, .int .i64 g]) (.agg [.int .i64 a', .int .i64 b', .int .i64 c', .int .i64 e', .int .i64 f', .int .i64 g']) = (true, decide (a = a') && (decide (b = b') && ((decide (c = c') && decide (e = e')) && (decide (f = f') && decide (g = g'))))) := by
 rw [waE9 (xbw9 ti93)];simp only [List.foldr_cons, List.foldr_nil, ti3, ti91, waf9];simp [wcz9, kcL9, cut, kq0]
theorem eq3 (a b : Int) : eqA Tryd.prog 8 3 (.int .i64 a) (.int .i64 b) = (true, decide (a = b)) := wcz9 7 a b
theorem eq91 (a b a' b' : Int) : eqA Tryd.prog 8 91 (.agg [.int .i64 a, .int .i64 b]) (.agg [.int .i64 a', .int .i64 b']) = (true, decide (a = a') && decide (b = b')) := kcL9 6 a b a' b'
theorem eq33 (a b a' b' : Int) : eqA Tryd.prog 8 33 (.agg [.int .i64 a, .int .i64 b]) (.agg [.int .i64 a', .int .i64 b']) = (true, decide (a = a') && decide (b = b')) := vdp9 6 a b a' b'
theorem eq93 (a b c e f g a' b' c' e' f' g' : Int) : eqA Tryd.prog 8 93 (.agg [.int .i64 a, .int .i64 b, .int .i64 c, .int .i64 e, .int .i64 f, .int .i64 g]) (.agg [.int .i64 a', .int .i64 b', .int .i64 c', .int .i64 e', .int .i64 f', .int .i64 g']) = (true, decide (a = a') && (decide (b = b') && ((decide (c = c') && decide (e = e')) && (decide (f = f') && decide (g = g'))))) := kdp9 5 a b c e f g a' b' c' e' f' g'
theorem lenS {α : Type} : (∀ (l : List α) (i : Nat) (a : α), (l.set i a).length = l.length) ∧ (∀ l : List α, l.reverse.length = l.length) ∧ (∀ (n : Nat) (a : α), (List.replicate n a).length = n) ∧ (∀ l r : List α, (l ++ r).length = l.length + r.length) ∧ (∀ (a : α) (l : List α), (a :: l).length = l.length + 1) ∧ (([] : List α).length = 0) ∧ (∀ (n : Nat) (l : List α), (l.take n).length = min n l.length) ∧ (∀ (n : Nat) (l : List α), (l.drop n).length = l.length - n) := by
 refine ⟨?_, ?_, ?_, ?_, ?_, ?_, ?_, ?_⟩ <;> intros <;> simp
theorem lenF : (∀ xs, (ints xs).length = xs.length) ∧ (∀ r, (rowA r).length = r.length) ∧ (∀ l, (xb0 l).length = l.length) ∧ (∀ l, (edsA l).length = l.length) := ⟨zb0, za0, wa0, xa0⟩
theorem wb0 {p : Prop} (h : p := by first|trivial|((repeat' apply And.intro) <;> first|trivial|assumption|omega|(simp only [maxLen]; omega)|(simp only [lenF, lenS, List.length_map, maxLen] <;> omega))) : p := h
theorem qa0 {p : Prop} (h : p := by first|omega|(simp only [lenF, lenS, List.length_map]; omega)) : p := h
attribute [simp] wj0 ke0 wl0 wh0 qav9
attribute [push_cast] kcy9 xcb9 qcz9 zcz9 za0 wa0 zb0 xa0 qh0 eq3 eq91 eq33 eq93 Bool.eq_true_or_eq_false_self Bool.eq_false_or_eq_true_self Bool.not_or_self Bool.or_not_self Bool.and_self Bool.or_self Bool.not_not Bool.and_not_self Bool.not_and_self
attribute [push_cast] ti1 ti2 ti3 ti4 ti5 ti9 ti22 ti24 ti25 ti27 ti28 ti30 ti33 et33 ti34 ti36 ti37 ti49 ti50 ti63 ti89 ti91 et91 ti93 et93 ti97 ti98 xdx9 wdx9 vdx9 kdx9 qdy9 zdy9 xdy9 wdy9 vdy9 kdy9 qdz9 zdz9 xdz9 wdz9 vdz9 kdz9 qdA9 zdA9 xdA9 wdA9 vdA9 kdA9 qdB9 zdB9 xdB9 en10 en11 en15 en16 en17 en18 en19 en20 en21 en22 en23 en24 en25 en28 en31 en33 en36 en40 en41 en42 en45 en46 en47 en48 en49 en50 en51 en52 en53 en54 en55 en56 en58 en59 en60 en61 en62 en63 en65 en66 en67 en68 en71 en72 en73 en75 en76 en77 en78 en79 en80 en81 en82 en83 en84 en85 en86 en87 en88 en89 en90 en91 en92 en93 en94 en95 en97 en98 en99 en100 zdp9 vcy9 xdp9 wdB9 vdB9 kdB9 qdC9 zdC9 wdp9 xdC9 wdC9 vdC9 kdC9 qdD9 zdD9 xdD9
set_option maxHeartbeats 0
set_option maxRecDepth 100000 in
theorem wba9 : PC Tryd.prog G0 74 [] (.agg [.int .i64 (-1), .int .i64 (-1)]) := by
 refine wf0 0 2 [.cell 0 91] Tryd.func74 rfl rfl rfl (by simp) ?_;intro s hz;clear hz;repeat' (first|refine nv ?_|(with_reducible first|refine gG ?_ ?_|refine ⟨fun h => ?_, fun h => ?_⟩ <;> try omega|refine andG ?_)|simp (disch := try exact qa0) only [push_cast, simprocAttr, Nat.add_zero])
set_option maxRecDepth 100000 in
theorem qcM9 : PC Tryd.prog G0 95 [] (.agg [.int .i64 (-1), .int .i64 (-1)]) := by
 refine wf0 0 2 [.cell 0 91] Tryd.func95 rfl rfl rfl (by simp) ?_;intro s hz;clear hz;repeat' (first|refine nv ?_|(with_reducible first|refine gG ?_ ?_|refine ⟨fun h => ?_, fun h => ?_⟩ <;> try omega|refine andG ?_)|simp (disch := try exact qa0) only [push_cast, simprocAttr, Nat.add_zero])
def vcb9 (l : List Row) (s i : Int) : Edg := if (l.length : Int) ≤ s then (-1, -1) else (l.getD s.toNat ([], none)).1.getD i.toNat (0, 0)
def wbw9 (l : List Row) (s : Int) : Nat := (l.getD s.toNat ([], none)).1.length
set_option maxRecDepth 100000 in
theorem zcM9 (a b : Int) (l : List Row) (c : Option Nat) (s i : Int) (hl : l.length ≤ 1000000) (h0 : 0 ≤ s ∧ 0 ≤ i) (h1 : s < l.length → i < wbw9 l s) : PC Tryd.prog G0 67 [mA a b l c, .int .i64 s, .int .i64 i] (.agg (eA (vcb9 l s i))) := by
 unfold mA;by_cases hs : (l.length : Int) ≤ s
 ·refine wf0 0 21 [.cell 6 91] Tryd.func67 rfl rfl rfl (by simp) ?_;intro s ⟨a0, a1, a2, hz⟩;simp only [Nat.zero_add, Nat.reduceAdd] at a1 a2;clear hz;rw [vcb9, if_pos hs];repeat' (first|refine nv ?_|(with_reducible first|refine gG ?_ ?_|refine ⟨fun h => ?_, fun h => ?_⟩ <;> try omega|refine andG ?_)|refine cp_ wba9 ?_|simp (disch := try exact qa0) only [push_cast, simprocAttr, a0, a1, a2, wa0, evS, G0_0, eA])
 ·have h2 : s.toNat < l.length := by omega
  have h3 := h1 (by omega);unfold wbw9 at h3;have e1 := xf0 l s.toNat h2;have h4 : i.toNat < (l.getD s.toNat ([], none)).1.length := by omega
  have e2 := zg0 _ _ h4;rw [vcb9, if_neg hs];generalize (l.getD s.toNat ([], none)).2 = cc at e1;generalize (l.getD s.toNat ([], none)).1 = rr at e1 e2 h3 h4 ⊢;refine wf0 0 21 [.cell 6 91] Tryd.func67 rfl rfl rfl (by simp) ?_;intro s ⟨a0, a1, a2, hz⟩;simp only [Nat.zero_add, Nat.reduceAdd] at a1 a2;clear hz;repeat' (first|refine nv ?_|(with_reducible first|refine gG ?_ ?_|refine ⟨fun h => ?_, fun h => ?_⟩ <;> try omega|refine andG ?_)|refine cp_ wba9 ?_|simp (disch := try exact qa0) only [push_cast, simprocAttr, a0, a1, a2, wa0, za0, e1, e2, eA])
  all_goals omega
def xaN9 (s : Int) (e : Edg) (st ou : Int) : Bool := decide (e = (-1, -1)) || (decide (s < st) && decide (0 ≤ e.1) && decide (e.1 < st) && decide (0 ≤ e.2) && decide (e.2 < ou))
theorem vcz9 (s x y st ou : Int) : xaN9 s (x, y) st ou = ((decide (x = -1) && decide (y = -1)) || (decide (s < st) && decide (0 ≤ x) && decide (x < st) && decide (0 ≤ y) && decide (y < ou))) := by simp [xaN9]
set_option maxRecDepth 100000 in
theorem xcM9 (s : Int) (e : Edg) (st ou : Int) : PC Tryd.prog G0 68 [.int .i64 s, .agg (eA e), .int .i64 st, .int .i64 ou] (.bool (xaN9 s e st ou)) := by
 obtain ⟨x, y⟩ := e;unfold eA;rw [vcz9];by_cases h : x = -1 ∧ y = -1
 ·obtain ⟨rfl, rfl⟩ := h;refine wf0 0 39 [.tmp 8] Tryd.func68 rfl rfl rfl (by simp) ?_;intro s ⟨a0, a1, a2, a3, hz⟩;simp only [Nat.zero_add, Nat.reduceAdd] at a1 a2 a3;clear hz;repeat' (first|refine nv ?_|(with_reducible first|refine gG ?_ ?_|refine ⟨fun h => ?_, fun h => ?_⟩ <;> try omega|refine andG ?_)|refine cp_ wba9 ?_|simp (disch := try exact qa0) only [push_cast, simprocAttr, a0, a1, a2, a3, evS, G0_0, Int.reduceNeg, Int.reduceEq])
  all_goals omega
 ·have hA : (decide (x = -1) && decide (y = -1)) = false := by simpa using h
  refine wf0 0 39 [.tmp 8] Tryd.func68 rfl rfl rfl (by simp) ?_;intro s ⟨a0, a1, a2, a3, hz⟩;simp only [Nat.zero_add, Nat.reduceAdd] at a1 a2 a3;clear hz;repeat' (first|refine nv ?_|(with_reducible first|refine gG ?_ ?_|refine ⟨fun h => ?_, fun h => ?_⟩ <;> try omega|refine andG ?_)|refine cp_ wba9 ?_|simp (disch := try exact qa0) only [push_cast, simprocAttr, a0, a1, a2, a3, evS, G0_0, hA])
  all_goals omega
def vC0 (x y : Ed) : Bool := decide (y.s < x.s) || (decide (x.s = y.s) && decide (y.i < x.i))
set_option maxRecDepth 100000 in
theorem waN9 (x y : Ed) : PC Tryd.prog G0 49 [.agg (xA x), .agg (xA y)] (.bool (vC0 x y)) := by
 unfold xA vC0;refine wf0 0 24 [.tmp 4] Tryd.func49 rfl rfl rfl (by simp) ?_;intro s ⟨a0, a1, hz⟩;simp only [Nat.zero_add, Nat.reduceAdd] at a1;clear hz;repeat' (first|refine nv ?_|(with_reducible first|refine gG ?_ ?_|refine ⟨fun h => ?_, fun h => ?_⟩ <;> try omega|refine andG ?_)|refine cp_ wba9 ?_|simp (disch := try exact qa0) only [push_cast, simprocAttr, a0, a1])
 all_goals omega
def kQ0 (p : Pt) (k : Nat) : Bool :=
 decide (1 ≤ p.inp) && decide (p.inp ≤ 16) && (decide (k = 0) || (decide (1 ≤ p.o0) && decide (p.o0 ≤ 16) && decide (1 ≤ p.s0) && decide (p.s0 ≤ 64))) && (decide (k ≤ 1) || (decide (1 ≤ p.o1) && decide (p.o1 ≤ 16) && decide (1 ≤ p.s1) && decide (p.s1 ≤ 64)))
def xD : Ed := ⟨0, 0, (0, 0), (0, 0)⟩
def okX (p : Pt) (first : Bool) (x y : Ed) : Bool :=
 !(decide (x.s < 0) || decide ((if p.s0 < p.s1 then p.s1 else p.s0) ≤ x.s) || decide (x.i < 0) || decide (p.inp ≤ x.i) || (decide (x.old.1 = x.new.1) && decide (x.old.2 = x.new.2))) && xaN9 x.s x.old p.s0 p.o0 && xaN9 x.s x.new p.s1 p.o1 && (first || vC0 x y)
def okAt (p : Pt) (k : Nat) : Bool := okX p (decide (k = 0)) (p.ed.getD k xD) (p.ed.getD (k - 1) xD)
def xj0 (p : Pt) : Int := if kQ0 p 2 = true ∧ ∀ k, k < p.ed.length → okAt p k = true then 0 else 1
theorem zr0 {p : Pt} {k : Nat} (hk : k < p.ed.length) (h : okAt p k = false) : xj0 p = 1 := by
 rw [xj0, if_neg];rintro ⟨_, h2⟩;rw [h2 k hk] at h; cases h
theorem vba9 {p : Pt} {k : Nat} (h : ∀ j, j < k → okAt p j = true) (hk : okAt p k = true) : ∀ j, j < k + 1 → okAt p j = true := fun j hj => by
 rcases Nat.lt_or_ge j k with q|q
 ·exact h j q
 ·obtain rfl : j = k := by omega
  exact hk
set_option maxRecDepth 100000 in
theorem vag9 (p : Pt) (z : Nat) (c : Option Nat) (hz : p.ed = [] ∨ z = 6) (hl : p.ed.length ≤ 1000000) : PC Tryd.prog G0 36 [pA p z c] (.int .i64 (xj0 p)) := by
 unfold pA;refine wf0 0 134 [.tmp 2] Tryd.func36 rfl rfl rfl (by simp) ?_;intro s ⟨a0, hz⟩;clear hz;repeat' (first|refine nv ?_|(with_reducible first|refine gG ?_ ?_|refine ⟨fun h => ?_, fun h => ?_⟩ <;> try omega|refine andG ?_)|simp (disch := try exact qa0) only [push_cast, simprocAttr, a0])
 refine go_loop rfl (fun m s' H' => ∃ k : Nat, k ≤ 2 ∧ m = 2 - k ∧ H' = [.row 6 36 [[.int .i64 p.inp, .int .i64 p.o0, .int .i64 p.o1, .int .i64 p.s0, .int .i64 p.s1, .sl z (edsA p.ed) c]]] ∧ s' 1 = .ptr 0 0 0 1 ∧ s' 15 = .int .i64 k ∧ s' 3 = .bool (kQ0 p k)) (m := 2) (by first|exact wb0|fail) (Weak.refl _ _) ⟨0, by omega, by omega, rfl, ?_⟩ ?_
 ·simp (disch := try exact qa0) only [push_cast, simprocAttr, a0];simp [kQ0]
 ·rintro m s' H' ⟨k, hk, rfl, rfl, b1, b15, b3⟩;have hk3 : k = 0 ∨ k = 1 ∨ k = 2 := by omega
  rcases hk3 with rfl|rfl|rfl
  ·rcases Bool.eq_false_or_eq_true (kQ0 p 0) with hb|hb <;> rw [hb] at b3
   ·repeat' (first|refine nv ?_|(with_reducible first|refine gG ?_ ?_|refine ⟨fun h => ?_, fun h => ?_⟩ <;> try omega|refine andG ?_)|simp (disch := try exact qa0) only [push_cast, simprocAttr, b1, b15, b3, qh0])
    refine qb0 1 (by omega) (by first|exact wb0|fail) ⟨1, by omega, by omega, rfl, ?_⟩;simp (disch := try exact qa0) only [push_cast, simprocAttr, b1, b15, b3, qh0];simp [kQ0, Bool.and_assoc] at hb ⊢;simp [hb]
   ·repeat' (first|refine nv ?_|(with_reducible first|refine gG ?_ ?_|refine ⟨fun h => ?_, fun h => ?_⟩ <;> try omega|refine andG ?_)|simp (disch := try exact qa0) only [push_cast, simprocAttr, b1, b15, b3, qh0])
    refine qb0 1 (by omega) (by first|exact wb0|fail) ⟨1, by omega, by omega, rfl, ?_⟩;simp (disch := try exact qa0) only [push_cast, simprocAttr, b1, b15, b3, qh0];simp [kQ0, Bool.and_assoc] at hb ⊢;omega
  ·rcases Bool.eq_false_or_eq_true (kQ0 p 1) with hb|hb <;> rw [hb] at b3
   ·repeat' (first|refine nv ?_|(with_reducible first|refine gG ?_ ?_|refine ⟨fun h => ?_, fun h => ?_⟩ <;> try omega|refine andG ?_)|simp (disch := try exact qa0) only [push_cast, simprocAttr, b1, b15, b3, qh0])
    refine qb0 0 (by omega) (by first|exact wb0|fail) ⟨2, by omega, by omega, rfl, ?_⟩;simp (disch := try exact qa0) only [push_cast, simprocAttr, b1, b15, b3, qh0];simp [kQ0, Bool.and_assoc] at hb ⊢;simp [hb]
   ·repeat' (first|refine nv ?_|(with_reducible first|refine gG ?_ ?_|refine ⟨fun h => ?_, fun h => ?_⟩ <;> try omega|refine andG ?_)|simp (disch := try exact qa0) only [push_cast, simprocAttr, b1, b15, b3, qh0])
    refine qb0 0 (by omega) (by first|exact wb0|fail) ⟨2, by omega, by omega, rfl, ?_⟩;simp (disch := try exact qa0) only [push_cast, simprocAttr, b1, b15, b3, qh0];simp [kQ0, Bool.and_assoc] at hb ⊢;omega
  ·rcases Bool.eq_false_or_eq_true (kQ0 p 2) with hb|hb <;> rw [hb] at b3
   ·repeat' (first|refine nv ?_|(with_reducible first|refine gG ?_ ?_|refine ⟨fun h => ?_, fun h => ?_⟩ <;> try omega|refine andG ?_)|simp (disch := try exact qa0) only [push_cast, simprocAttr, b1, b15, b3, qh0])
    refine go_loop rfl (fun m s' H' => ∃ k : Nat, k ≤ p.ed.length ∧ m = p.ed.length - k ∧ H' = [.row 6 36 [[.int .i64 p.inp, .int .i64 p.o0, .int .i64 p.o1, .int .i64 p.s0, .int .i64 p.s1, .sl z (edsA p.ed) c]]] ∧ s' 1 = .ptr 0 0 0 1 ∧ s' 51 = .sl z (edsA p.ed) c ∧ s' 52 = .int .i64 p.ed.length ∧ s' 53 = .int .i64 k ∧ ∀ j, j < k → okAt p j = true) (m := p.ed.length) (by first|exact wb0|fail) (Weak.refl _ _) ⟨0, by omega, by omega, rfl, ?_⟩ ?_
    ·simp (disch := try exact qa0) only [push_cast, simprocAttr, b1, b15, b3, qh0];exact fun j hj => by omega
    ·rintro m s2 H2 ⟨k, hk, rfl, rfl, b1, b51, b52, b53, hok⟩;rcases Nat.lt_or_ge k p.ed.length with hlt|hge
     ·obtain rfl : z = 6 := by
       rcases hz with h|h
       ·rw [h] at hlt; simp at hlt
       ·exact h
      have e1 := qK0 p.ed k hlt;have ho : okAt p k = okX p (decide (k = 0)) (p.ed.getD k xD) (p.ed.getD (k - 1) xD) := rfl;have e2 : 0 < k → (edsA p.ed).getD (k - 1) [] = xA (p.ed.getD (k - 1) xD) := fun h => qK0 p.ed (k - 1) (by omega)
      change _ = xA (p.ed.getD k xD) at e1
      generalize p.ed.getD k xD = x at *;generalize p.ed.getD (k - 1) xD = y at *;obtain ⟨xs, xi, ⟨oa, ob⟩, ⟨na, nb⟩⟩ := x;obtain ⟨ys, yi, ⟨qa, qb⟩, ⟨ra, rb⟩⟩ := y;have hS1 := xcM9 xs (oa, ob) p.s0 p.o0;have hS2 := xcM9 xs (na, nb) p.s1 p.o1;have hBh := waN9 ⟨xs, xi, (oa, ob), (na, nb)⟩ ⟨ys, yi, (qa, qb), (ra, rb)⟩;simp only [okX] at ho;simp only [xA] at e1 e2;generalize xaN9 xs (oa, ob) p.s0 p.o0 = sd1 at *;generalize xaN9 xs (na, nb) p.s1 p.o1 = sd2 at *;generalize vC0 ⟨xs, xi, (oa, ob), (na, nb)⟩ ⟨ys, yi, (qa, qb), (ra, rb)⟩ = bh at *;repeat' (first|(first|(with_reducible refine wx0 (p := [0, 1, 1, 0, 0, 1, 1, 0, 0, 1, 0, 1, 1, 1, 1]) ?_)|refine nav ?_|(refine g0_ ?_; first|refine goD ?_))|(with_reducible first|refine gG ?_ ?_|refine ⟨fun h => ?_, fun h => ?_⟩ <;> try omega|refine andG ?_)|simp (disch := try exact qa0) only [push_cast, simprocAttr, b1, b51, b52, b53, e1, xa0, qh0])
      ·congr 1
       refine (zr0 hlt ?_).symm;rw [ho, Bool.eq_false_iff];intro hq;simp at hq;omega
      refine Halt.mk ?_;have hord : qaf9 allQ (zm0 (atR (ws0 Tryd.f36) [0, 1, 1, 0, 0, 1, 1, 0, 0, 1, 0, 1, 1, 1, 1])) = true := by kernel_rfl
      rcases Nat.eq_zero_or_pos k with rfl|hkp
      ·simp only [decide_true, Bool.true_or, Bool.and_true] at ho;cases sd1 <;> cases sd2
       all_goals
        repeat' (first|refine nv ?_|(with_reducible first|refine gG ?_ ?_|refine ⟨fun h => ?_, fun h => ?_⟩ <;> try omega|refine andG ?_)|refine cp_ hS1 ?_ (hi := by (simp [idsL, idsE, AV.ids, eA, xA]))|refine cp_ hS2 ?_ (hi := by (simp [idsL, idsE, AV.ids, eA, xA]))|(refine ⟨AV.str [], ?_⟩; refine kY0 ?_)|simp (disch := try exact qa0) only [push_cast, simprocAttr, b1, b51, b52, b53, e1, xa0, qh0])
       ·congr 1
        exact (zr0 hlt (by rw [ho]; simp)).symm
       ·congr 1
        exact (zr0 hlt (by rw [ho]; simp)).symm
       ·congr 1
        exact (zr0 hlt (by rw [ho]; simp)).symm
       ·refine va0 (p.ed.length - (0 + 1)) 1 (by omega) (by first|exact wb0|fail) (by omega) (by simp) (by simp [Blk.below, idsE, idsL, AV.ids, wh0]) ⟨0 + 1, by omega, rfl, rfl, ?_⟩;simp (disch := try exact qa0) only [push_cast, simprocAttr, b1, b51, b52, b53, xa0, qh0, qe0, AV.ids, idsL, wh0];refine vba9 hok ?_;rw [ho];simp;omega
      ·have hk0 : ((k : Int) - 1).toNat = k - 1 := by omega
       have hkp' : (0 : Int) < k := by omega
       have hk1 : decide (k = 0) = false := decide_eq_false (by omega);have e2 := e2 hkp;rw [hk1, Bool.false_or] at ho;cases sd1 <;> cases sd2
       all_goals
        repeat' (first|refine nv ?_|(with_reducible first|refine gG ?_ ?_|refine ⟨fun h => ?_, fun h => ?_⟩ <;> try omega|refine andG ?_)|refine cp_ hS1 ?_ (hi := by (simp [idsL, idsE, AV.ids, eA, xA]))|refine cp_ hS2 ?_ (hi := by (simp [idsL, idsE, AV.ids, eA, xA]))|refine cp_ hBh ?_ (hi := by (simp [idsL, idsE, AV.ids, eA, xA]))|(refine ⟨AV.str [], ?_⟩; refine kY0 ?_)|simp (disch := try exact qa0) only [push_cast, simprocAttr, b1, b51, b52, b53, e1, xa0, qh0, hk0, e2, hkp'])
       ·congr 1
        exact (zr0 hlt (by rw [ho]; simp)).symm
       ·congr 1
        exact (zr0 hlt (by rw [ho]; simp)).symm
       ·congr 1
        exact (zr0 hlt (by rw [ho]; simp)).symm
       ·congr 1
        exact (zr0 hlt (by rw [ho, h]; simp)).symm
       ·refine va0 (p.ed.length - (k + 1)) 1 (by omega) (by first|exact wb0|fail) (by omega) (by simp) (by simp [Blk.below, idsE, idsL, AV.ids, wh0]) ⟨k + 1, by omega, rfl, rfl, ?_⟩;simp (disch := try exact qa0) only [push_cast, simprocAttr, b1, b51, b52, b53, xa0, qh0, qe0, AV.ids, idsL, wh0];refine vba9 hok ?_;rw [ho];simp [h];omega
     ·obtain rfl : k = p.ed.length := by omega
      repeat' (first|refine nv ?_|(with_reducible first|refine gG ?_ ?_|refine ⟨fun h => ?_, fun h => ?_⟩ <;> try omega|refine andG ?_)|simp (disch := try exact qa0) only [push_cast, simprocAttr, b1, b51, b52, b53, xa0, qh0])
      congr 1
      rw [xj0, if_pos ⟨hb, hok⟩]
   ·repeat' (first|refine nv ?_|(with_reducible first|refine gG ?_ ?_|refine ⟨fun h => ?_, fun h => ?_⟩ <;> try omega|refine andG ?_)|simp (disch := try exact qa0) only [push_cast, simprocAttr, b1, b15, b3, qh0])
    congr 1
    rw [xj0, if_neg];rintro ⟨h1, _⟩;rw [h1] at hb; cases hb
end Go.Proofs
