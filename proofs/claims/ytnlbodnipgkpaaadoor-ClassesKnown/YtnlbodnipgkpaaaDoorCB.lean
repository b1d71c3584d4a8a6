import Derived.Test.YtnlbodnipgkpaaaDoorCT
import Derived.Test.YtnlbodnipgkpaaaDoorV48
import Derived.Test.YtnlbodnipgkpaaaDoorV44
/- Classes: what all walks of this seat share. -/
namespace Go.Proofs
open Go Go.V
set_option linter.unusedVariables false
set_option linter.unusedSimpArgs false
/-- What is known of the package-level variables: strconv's errors, bytealg's bound, the powers of ten. -/
def G0 : Glob := fun g => match g with | 0 => some [.err] | 1 => some [.err] | 2 => some [.anyi .i64] | 3 => some pow10G | _ => none
/-- Lists of ints; of pairs; of lists of ints. -/
def ints (xs : List Int) : List (List AV) := xs.map fun x => [.int .i64 x]
abbrev Pr := Int × Int
def prA (x : Pr) : List AV := [.int .i64 x.1, .int .i64 x.2]
def prs (xs : List Pr) : List (List AV) := xs.map prA
abbrev Row := List Int × Option Nat
def rowsA (l : List Row) : List (List AV) := l.map fun r => [.sl 1 (ints r.1) r.2]
theorem length_ints (xs : List Int) : (ints xs).length = xs.length := by simp [ints]
theorem length_prs (xs : List Pr) : (prs xs).length = xs.length := by simp [prs]
theorem length_rowsA (l : List Row) : (rowsA l).length = l.length := by simp [rowsA]
theorem length_strs (ps : List (List UInt8)) : (strs ps).length = ps.length := by simp [strs]
theorem getD_ints (xs : List Int) (k : Nat) (h : k < xs.length) : (ints xs).getD k [] = [.int .i64 (xs.getD k 0)] := by simp [ints, h]
theorem getD_prs (xs : List Pr) (k : Nat) (h : k < xs.length) : (prs xs).getD k [] = prA (xs.getD k (0, 0)) := by simp [prs, h]
theorem getD_rowsA (l : List Row) (k : Nat) (h : k < l.length) : (rowsA l).getD k [] = [.sl 1 (ints (l.getD k ([], none)).1) (l.getD k ([], none)).2] := by simp [rowsA, h]
theorem getD_strs (ps : List (List UInt8)) (k : Nat) (h : k < ps.length) : (strs ps).getD k [] = [.str (ps.getD k [])] := by simp [strs, h]
theorem idsE_ints (p : Nat → Bool) (xs : List Int) : idsE p (ints xs) = true := idsE_map _ _ fun x => by simp [idsL, AV.ids]
theorem idsE_prs (p : Nat → Bool) (xs : List Pr) : idsE p (prs xs) = true := idsE_map _ _ fun x => by simp [prA, idsL, AV.ids]
theorem idsE_rowsA (p : Nat → Bool) (l : List Row) : idsE p (rowsA l) = true := idsE_map _ _ fun x => by simp [idsL, AV.ids, idsE_ints]
theorem idsE_strs (p : Nat → Bool) (ps : List (List UInt8)) : idsE p (strs ps) = true := idsE_map _ _ fun x => by simp [idsL, AV.ids]
theorem idsE_append (p : Nat → Bool) (a b : List (List AV)) : idsE p (a ++ b) = (idsE p a && idsE p b) := by
  induction a with
  | nil => simp [idsE]
  | cons x xs ih => simp [idsE, ih, Bool.and_assoc]
theorem all_of_idsE {p : Nat → Bool} {es : List (List AV)} (h : idsE p es = true) : (es.all fun e => e.all fun x => AV.ids p x) = true := by
  have hl : ∀ e : List AV, idsL p e = true → (e.all fun x => AV.ids p x) = true := fun e => by
    induction e with
    | nil => intro _; rfl
    | cons x xs ih => intro h; rw [idsL, Bool.and_eq_true] at h; rw [List.all_cons, h.1, ih h.2]; rfl
  induction es with
  | nil => rfl
  | cons e es ih => rw [idsE, Bool.and_eq_true] at h; rw [List.all_cons, hl e h.1, ih h.2]; rfl
theorem all_ints (p : Nat → Bool) (xs : List Int) : ((ints xs).all fun e => e.all fun x => AV.ids p x) = true := all_of_idsE (idsE_ints p xs)
theorem all_prs (p : Nat → Bool) (xs : List Pr) : ((prs xs).all fun e => e.all fun x => AV.ids p x) = true := all_of_idsE (idsE_prs p xs)
theorem all_rowsA (p : Nat → Bool) (l : List Row) : ((rowsA l).all fun e => e.all fun x => AV.ids p x) = true := all_of_idsE (idsE_rowsA p l)
theorem all_strs (p : Nat → Bool) (l : List (List UInt8)) : ((strs l).all fun e => e.all fun x => AV.ids p x) = true := all_of_idsE (idsE_strs p l)
theorem ints_nil : ints [] = [] := rfl
theorem prs_nil : prs [] = [] := rfl
theorem rowsA_nil : rowsA [] = [] := rfl
theorem ints_snoc (xs : List Int) (x : Int) : ints xs ++ [[.int .i64 x]] = ints (xs ++ [x]) := by simp [ints]
theorem strs_snoc (xs : List (List UInt8)) (x : List UInt8) : strs xs ++ [[.str x]] = strs (xs ++ [x]) := by simp [strs]
theorem ints_set (xs : List Int) (k : Nat) (v : Int) : (ints xs).set k [.int .i64 v] = ints (xs.set k v) := by rw [ints, ints, List.map_set]
theorem prs_set (xs : List Pr) (k : Nat) (v : Pr) : (prs xs).set k (prA v) = prs (xs.set k v) := by rw [prs, prs, List.map_set]
theorem ints_rep (n : Nat) (b : Int) : List.replicate n [AV.int .i64 b] = ints (List.replicate n b) := by simp [ints]
theorem prs_rep (n : Nat) (a b : Int) : List.replicate n [AV.int .i64 a, .int .i64 b] = prs (List.replicate n (a, b)) := by simp [prs, prA]
theorem wrap64 (n : Int) (h1 : -9223372036854775808 ≤ n) (h2 : n < 9223372036854775808) : IntKind.i64.wrap n = n := by rw [IntKind.wrap_i64]; omega
theorem take_succ_map {α β : Type} (f : α → β) (l : List α) (d : α) (k : Nat) (h : k < l.length) : (l.take (k + 1)).map f = (l.take k).map f ++ [f (l.getD k d)] := by
  rw [List.take_succ_eq_append_getElem h, List.map_append]; simp [h]
theorem take_snoc {α : Type} (l : List α) (d : α) (k : Nat) (h : k < l.length) : l.take (k + 1) = l.take k ++ [l.getD k d] := by
  rw [List.take_succ_eq_append_getElem h]; simp [h]
theorem drop_cons {α : Type} (l : List α) (d : α) (k : Nat) (h : k < l.length) : l.drop k = l.getD k d :: l.drop (k + 1) := by
  rw [List.drop_eq_getElem_cons h]; simp [h]
theorem getD_mem {α : Type} {l : List α} {k : Nat} (d : α) (h : k < l.length) : l.getD k d ∈ l := by
  rw [List.getD_eq_getElem?_getD, List.getElem?_eq_getElem h]; exact List.getElem_mem h
theorem getD_map {α β : Type} (f : α → β) (l : List α) (d : α) (e : β) (k : Nat) (h : k < l.length) : (l.map f).getD k e = f (l.getD k d) := by simp [h]
theorem getD_take {α : Type} (l : List α) (d : α) (k n : Nat) (h : k < n) : (l.take n).getD k d = l.getD k d := by
  simp [List.getD_eq_getElem?_getD, List.getElem?_take, h]
theorem shp_of {P : Program} {t : TypeId} {T : TI} (h : tinfo P t = some T) : shp P t = T.shape := by simp [shp, h]
theorem eqA_3 (d : Nat) (a b : Int) : eqA Tryd.prog (d + 1) 3 (.int .i64 a) (.int .i64 b) = (true, decide (a = b)) := eqA_int (shp_of ti3) a b
theorem eqA_45 (d : Nat) (a b a' b' : Int) : eqA Tryd.prog (d + 2) 45 (.agg [.int .i64 a, .int .i64 b]) (.agg [.int .i64 a', .int .i64 b']) = (true, decide (a = a') && decide (b = b')) := by
  rw [eqA_array (shp_of ti45) ti3]
  simp only [List.range_succ, List.range_zero, List.nil_append, List.cons_append, List.foldr_cons, List.foldr_nil, eqPair_one]
  simp [eqA_3, cut, fitsAt]
theorem eq3 (a b : Int) : eqA Tryd.prog 8 3 (.int .i64 a) (.int .i64 b) = (true, decide (a = b)) := eqA_3 7 a b
theorem eq45 (a b a' b' : Int) : eqA Tryd.prog 8 45 (.agg [.int .i64 a, .int .i64 b]) (.agg [.int .i64 a', .int .i64 b']) = (true, decide (a = a') && decide (b = b')) := eqA_45 6 a b a' b'
attribute [simp] idsE_ints idsE_prs idsE_rowsA idsE_strs idsE_append
attribute [push_cast] idsE_ints idsE_prs idsE_rowsA idsE_strs all_ints all_prs all_rowsA all_strs length_ints length_prs length_rowsA length_strs wrap64 eq3 eq45 Bool.eq_true_or_eq_false_self Bool.eq_false_or_eq_true_self Bool.not_or_self Bool.or_not_self Bool.and_self Bool.or_self Bool.not_not Bool.and_not_self Bool.not_and_self
attribute [push_cast] ti1 ti2 ti3 ti4 ti5 ti6 ti7 ti8 ti9 ti10 ti11 ti12 ti13 ti14 ti15 ti16 ti17 ti18 ti19 ti20 ti21 ti22 ti23 ti24 ti25 ti27 ti28 ti30 ti32 ti33 ti35 ti37 ti38 ti39 ti40 ti41 ti42 ti43 ti44 ti45 et45 ti46 ti47 ti48 ti49 ti50 ti51 ti52 ti53 ti54 ti55 ti56 ti57 ti58 ti59 ti60 ti61 ti62 ti63 ti64 ti65 ti66 ti67 ti68 ti70 ti72 ti73 ti74 ti75 ti76 ti77 ti78 ti79 ti80 ti81 ti82 ti83 ti84 ti85 ti86 ti87 ti89 ti90 ti91 ti92 ti93 ti94 ti95 ti97 ti98 ti99 ti101 ti102 ti103 ti104 ti105 ti106 ti107 et107 ti108 ti109 ti111 ti113 ti114 ti115 ti116 ti117 ti118 ti119 et119 ti120 ti121 et121 ti122 ti123 et123 ti124 ti125 ti126 et126 ti127 ti128 et128 ti129 et129 ti131 ti132 ti133 et133 ti134 et134 ti135 ti136 ti137 ti138 ti139 ti140 ti141 ti142 ti143 ti144 ti145 ti146 en2 en3 en4 en5 en6 en7 en8 en9 en10 en11 en12 en13 en14 en15 en16 en17 en18 en19 en20 en21 en22 en23 en24 en25 en26 en27 en28 en29 en30 en31 en32 en33 en34 en35 en36 en37 en38 en39 en40 en41 en42 en43 en44 en45 en46 en47 en48 en49 en50 en51 en52 en53 en54 en55 en56 en57 en58 en59 en60 en61 en62 en63 en64 en65 en66 en67 en68 en70 en71 en72 en73 en74 en75 en76 en77 en80 en81 en83 en84 en85 en86 en87 en88 en89 en90 en91 en93 en94 en95 en125
end Go.Proofs
