import Derived.Test.YtfdnlhegmdhcjaaDoorFT
import Derived.Test.YtfdnlhegmdhcjaaDoorV51
import Derived.Test.YtfdnlhegmdhcjaaDoorV44
import Derived.Test.YtfdnlhegmdhcjaaDoorV47
import Derived.Test.YtfdnlhegmdhcjaaDoorFP7
namespace Go.Proofs
open Go Go.V
set_option linter.unusedVariables false
set_option linter.unusedSimpArgs false
def tableG : List AV := [.str [111, 117, 116, 112, 117, 116], .bool false, .bool false, .bool true, .str [116, 114, 97, 110, 115, 102, 101, 114], .bool true, .bool false, .bool false, .str [109, 105, 115, 115, 105, 110, 103], .bool false, .bool false, .bool false, .str [101, 120, 116, 114, 97], .bool true, .bool false, .bool false, .str [100, 101, 101, 112], .bool false, .bool true, .bool true]
def G0 : Glob := fun g => match g with|0 => some tableG|1 => some [.err]|2 => some [.err]|3 => some pow10G|4 => some [.anyi .i64]|_ => none
theorem G0_0 : G0 0 = some tableG := rfl
abbrev Edg := Int × Int
abbrev Row := List Edg × Option Nat
def eA (e : Edg) : List AV := [.int .i64 e.1, .int .i64 e.2]
def rowA (r : List Edg) : List (List AV) := r.map eA
def rowsA (l : List Row) : List (List AV) := l.map fun r => [.sl 2 (rowA r.1) r.2]
def ints (xs : List Int) : List (List AV) := xs.map fun x => [.int .i64 x]
def flA (f : Flt) : List AV := [.int .i64 f.k, .int .i64 f.s, .int .i64 f.i, .int .i64 f.t, .int .i64 f.a, .int .i64 f.o]
def fls (l : List Flt) : List (List AV) := l.map flA
def fl0 : Flt := ⟨0, 0, 0, 0, 0, 0⟩
theorem length_fls (l : List Flt) : (fls l).length = l.length := by simp [fls]
theorem getD_fls (l : List Flt) (k : Nat) (h : k < l.length) : (fls l).getD k [] = flA (l.getD k fl0) := by simp [fls, h]
theorem idsE_fls (p : Nat → Bool) (l : List Flt) : idsE p (fls l) = true := idsE_map _ _ fun x => by simp [flA, idsL, AV.ids]
theorem fls_snoc (l : List Flt) (x : Flt) : fls l ++ [flA x] = fls (l ++ [x]) := by simp [fls]
theorem length_rowA (r : List Edg) : (rowA r).length = r.length := by simp [rowA]
theorem length_rowsA (l : List Row) : (rowsA l).length = l.length := by simp [rowsA]
theorem length_ints (xs : List Int) : (ints xs).length = xs.length := by simp [ints]
theorem getD_rowA (r : List Edg) (k : Nat) (h : k < r.length) : (rowA r).getD k [] = eA (r.getD k (0, 0)) := by simp [rowA, h]
theorem getD_rowsA (l : List Row) (k : Nat) (h : k < l.length) : (rowsA l).getD k [] = [.sl 2 (rowA (l.getD k ([], none)).1) (l.getD k ([], none)).2] := by simp [rowsA, h]
theorem getD_ints (xs : List Int) (k : Nat) (h : k < xs.length) : (ints xs).getD k [] = [.int .i64 (xs.getD k 0)] := by simp [ints, h]
theorem idsE_rowA (p : Nat → Bool) (r : List Edg) : idsE p (rowA r) = true := idsE_map _ _ fun x => by simp [eA, idsL, AV.ids]
theorem idsE_rowsA (p : Nat → Bool) (l : List Row) : idsE p (rowsA l) = true := idsE_map _ _ fun x => by simp [idsL, AV.ids, idsE_rowA]
theorem idsE_ints (p : Nat → Bool) (xs : List Int) : idsE p (ints xs) = true := idsE_map _ _ fun x => by simp [idsL, AV.ids]
theorem idsE_append (p : Nat → Bool) (a b : List (List AV)) : idsE p (a ++ b) = (idsE p a && idsE p b) := by
 induction a with
 | nil => simp [idsE]
 | cons x xs ih => simp [idsE, ih, Bool.and_assoc]
theorem all_of_idsE {p : Nat → Bool} {es : List (List AV)} (h : idsE p es = true) : (es.all fun e => e.all fun x => AV.ids p x) = true := by
 have hl : ∀ e : List AV, idsL p e = true → (e.all fun x => AV.ids p x) = true := fun e => by
  induction e with
  | nil => intro _; rfl
  | cons x xs ih => intro h; rw [idsL, Bool.and_eq_true] at h; rw [List.all_cons, h.1, ih h.2]; rfl
 induction es with
 | nil => rfl
 | cons e es ih => rw [idsE, Bool.and_eq_true] at h; rw [List.all_cons, hl e h.1, ih h.2]; rfl
theorem all_rowA (p : Nat → Bool) (r : List Edg) : ((rowA r).all fun e => e.all fun x => AV.ids p x) = true := all_of_idsE (idsE_rowA p r)
theorem all_rowsA (p : Nat → Bool) (l : List Row) : ((rowsA l).all fun e => e.all fun x => AV.ids p x) = true := all_of_idsE (idsE_rowsA p l)
theorem all_ints (p : Nat → Bool) (xs : List Int) : ((ints xs).all fun e => e.all fun x => AV.ids p x) = true := all_of_idsE (idsE_ints p xs)
theorem all_fls (p : Nat → Bool) (l : List Flt) : ((fls l).all fun e => e.all fun x => AV.ids p x) = true := all_of_idsE (idsE_fls p l)
theorem wrap64 (n : Int) (h1 : -9223372036854775808 ≤ n) (h2 : n < 9223372036854775808) : IntKind.i64.wrap n = n := by rw [IntKind.wrap_i64]; omega
theorem snocB {P : Nat → Prop} {k : Nat} (h : ∀ j, j < k → P j) (hk : P k) : ∀ j, j < k + 1 → P j := fun j hj => by
 rcases Nat.lt_or_ge j k with q|q
 ·exact h j q
 ·obtain rfl : j = k := by omega
  exact hk
theorem ext_getD {α : Type} {l r : List α} (d : α) (h : l.length = r.length) (hh : ∀ j, j < l.length → l.getD j d = r.getD j d) : l = r := by
 refine List.ext_getElem h fun j h1 h2 => ?_
 have := hh j h1
 simpa [h1, h2] using this
def mA (i o : Int) (l : List Row) (c : Option Nat) : AV := .agg [.int .i64 i, .int .i64 o, .sl 1 (rowsA l) c]
theorem shp_of {P : Program} {t : TypeId} {T : TI} (h : tinfo P t = some T) : shp P t = T.shape := by simp [shp, h]
theorem eqA_3 (d : Nat) (a b : Int) : eqA Tryd.prog (d + 1) 3 (.int .i64 a) (.int .i64 b) = (true, decide (a = b)) := eqA_int (shp_of ti3) a b
theorem eqA_46 (d : Nat) (a b a' b' : Int) : eqA Tryd.prog (d + 2) 46 (.agg [.int .i64 a, .int .i64 b]) (.agg [.int .i64 a', .int .i64 b']) = (true, decide (a = a') && decide (b = b')) := by
 rw [eqA_struct (shp_of ti46)]
 simp only [List.foldr_cons, List.foldr_nil, ti3, eqPair_one]
 simp [eqA_3, cut, fitsAt]
theorem eq3 (a b : Int) : eqA Tryd.prog 8 3 (.int .i64 a) (.int .i64 b) = (true, decide (a = b)) := eqA_3 7 a b
theorem eq46 (a b a' b' : Int) : eqA Tryd.prog 8 46 (.agg [.int .i64 a, .int .i64 b]) (.agg [.int .i64 a', .int .i64 b']) = (true, decide (a = a') && decide (b = b')) := eqA_46 6 a b a' b'
attribute [simp] idsE_fls idsE_rowA idsE_rowsA idsE_ints idsE_append
attribute [push_cast] all_fls length_fls all_rowA all_rowsA all_ints length_rowA length_rowsA length_ints wrap64 eq3 eq46 Bool.eq_true_or_eq_false_self Bool.eq_false_or_eq_true_self Bool.not_or_self Bool.or_not_self Bool.and_self Bool.or_self Bool.not_not Bool.and_not_self Bool.not_and_self
attribute [push_cast] ti1 ti2 ti3 ti4 ti5 ti9 ti21 ti22 ti24 ti25 ti27 et27 ti28 ti30 ti33 et33 ti37 ti44 ti46 et46 ti50 ti55 ti78 ti81 et81 ti82 et82 ti89 ti93 ti103 ti104 ti105 ti106 ti108 ti116 ti122 ti123 ti125 ti136 ti139 ti142 ti145 et145 ti146 ti160 ti163 ti167 et167 ti168 ti169 et169 ti173 ti175 et175 ti177 et177 ti179 et179 ti180 et180 ti183 et183 ti184 et184 en9 en10 en11 en12 en13 en14 en15 en16 en17 en20 en22 en23 en25 en30 en32 en33 en34 en35 en36 en37 en38 en39 en40 en41 en44 en45 en46 en47 en53 en54 en55 en56 en58 en59 en60 en61 en62 en63 en65 en66 en67 en68 en70 en71 en72 en73 en74 en75 en76 en77 en78 en79 en80 en81 en82 en83 en84 en85 en86 en87 en88 en89 en90 en91 en94 en95 en97 en98 en99 en100 en101 en102 en103 en104 en105 en106 en107 en109 en110 en111 en112 en113 en114 en116
theorem lenS {α : Type} : (∀ (l : List α) (i : Nat) (a : α), (l.set i a).length = l.length) ∧ (∀ l : List α, l.reverse.length = l.length) ∧ (∀ (n : Nat) (a : α), (List.replicate n a).length = n) ∧ (∀ l r : List α, (l ++ r).length = l.length + r.length) ∧ (∀ (a : α) (l : List α), (a :: l).length = l.length + 1) ∧ (([] : List α).length = 0) ∧ (∀ (n : Nat) (l : List α), (l.take n).length = min n l.length) ∧ (∀ (n : Nat) (l : List α), (l.drop n).length = l.length - n) := by
 refine ⟨?_, ?_, ?_, ?_, ?_, ?_, ?_, ?_⟩ <;> intros <;> simp
theorem lenF : (∀ l, (rowsA l).length = l.length) ∧ (∀ r, (rowA r).length = r.length) ∧ (∀ l, (fls l).length = l.length) ∧ (∀ xs, (ints xs).length = xs.length) := ⟨length_rowsA, length_rowA, length_fls, length_ints⟩
end Go.Proofs
