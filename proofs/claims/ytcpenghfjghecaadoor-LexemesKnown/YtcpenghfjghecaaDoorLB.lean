import Derived.Test.YtcpenghfjghecaaDoorLT
import Derived.Test.YtcpenghfjghecaaDoorV50
import Derived.Test.YtcpenghfjghecaaDoorV47
import Derived.Test.YtcpenghfjghecaaDoorV44
import Derived.Test.YtcpenghfjghecaaDoorLP5
/- Lexemes: what all walks of this seat share. -/
namespace Go.Proofs
open Go Go.V
set_option linter.unusedVariables false
set_option linter.unusedSimpArgs false
def pairsG : List AV := [.str [45, 62], .str [60, 61], .str [62, 61], .str [33, 61], .str [58, 61]]
/-- What is known of the package-level variables: bytealg's bound, the pairs, strconv's errors, the powers of ten. -/
def G0 : Glob := fun g => match g with | 0 => some [.anyi .i64] | 1 => some pairsG | 2 => some [.err] | 3 => some [.err] | 6 => some pow10G | _ => none
theorem G0_1 : G0 1 = some pairsG := rfl
def tk0 : Tk := ⟨0, [], 0, 0⟩
def tkA (t : Tk) : List AV := [.int .u8 t.k, .str t.t, .int .i64 t.l, .int .i64 t.c]
def tks (l : List Tk) : List (List AV) := l.map tkA
theorem length_tks (l : List Tk) : (tks l).length = l.length := by simp [tks]
theorem getD_tks (l : List Tk) (k : Nat) (h : k < l.length) : (tks l).getD k [] = tkA (l.getD k tk0) := by simp [tks, h]
theorem idsE_tks (p : Nat → Bool) (l : List Tk) : idsE p (tks l) = true := idsE_map _ _ fun x => by simp [tkA, idsL, AV.ids]
theorem idsE_strs (p : Nat → Bool) (ps : List (List UInt8)) : idsE p (strs ps) = true := idsE_map _ _ fun x => by simp [idsL, AV.ids]
theorem all_of_idsE {p : Nat → Bool} {es : List (List AV)} (h : idsE p es = true) : (es.all fun e => e.all fun x => AV.ids p x) = true := by
  have hl : ∀ e : List AV, idsL p e = true → (e.all fun x => AV.ids p x) = true := fun e => by
    induction e with
    | nil => intro _; rfl
    | cons x xs ih => intro h; rw [idsL, Bool.and_eq_true] at h; rw [List.all_cons, h.1, ih h.2]; rfl
  induction es with
  | nil => rfl
  | cons e es ih => rw [idsE, Bool.and_eq_true] at h; rw [List.all_cons, hl e h.1, ih h.2]; rfl
theorem all_tks (p : Nat → Bool) (l : List Tk) : ((tks l).all fun e => e.all fun x => AV.ids p x) = true := all_of_idsE (idsE_tks p l)
theorem all_strs (p : Nat → Bool) (l : List (List UInt8)) : ((strs l).all fun e => e.all fun x => AV.ids p x) = true := all_of_idsE (idsE_strs p l)
theorem tks_nil : tks [] = [] := rfl
theorem strs_nil : strs [] = [] := rfl
theorem tks_snoc (l : List Tk) (x : Tk) : tks l ++ [tkA x] = tks (l ++ [x]) := by simp [tks]
theorem length_strs (ps : List (List UInt8)) : (strs ps).length = ps.length := by simp [strs]
theorem getD_strs (ps : List (List UInt8)) (k : Nat) (h : k < ps.length) : (strs ps).getD k [] = [.str (ps.getD k [])] := by simp [strs, h]
theorem wrap64 (n : Int) (h1 : -9223372036854775808 ≤ n) (h2 : n < 9223372036854775808) : IntKind.i64.wrap n = n := by rw [IntKind.wrap_i64]; omega
theorem ext_getD {α : Type} {l r : List α} (d : α) (h : l.length = r.length) (hh : ∀ j, j < l.length → l.getD j d = r.getD j d) : l = r := by
  refine List.ext_getElem h fun j h1 h2 => ?_
  have := hh j h1
  simpa [h1, h2] using this
theorem take_snoc {α : Type} (l : List α) (d : α) (k : Nat) (h : k < l.length) : l.take (k + 1) = l.take k ++ [l.getD k d] := by
  rw [List.take_succ_eq_append_getElem h]; simp [h]
theorem drop_cons {α : Type} (l : List α) (d : α) (k : Nat) (h : k < l.length) : l.drop k = l.getD k d :: l.drop (k + 1) := by
  rw [List.drop_eq_getElem_cons h]; simp [h]
theorem getD_mem {α : Type} {l : List α} {k : Nat} (d : α) (h : k < l.length) : l.getD k d ∈ l := by
  rw [List.getD_eq_getElem?_getD, List.getElem?_eq_getElem h]; exact List.getElem_mem h
theorem getD_some {l : List UInt8} {k : Nat} (h : k < l.length) : l[k]? = some (l.getD k 0) := by simp [h]
theorem byte_eq (c : UInt8) (n : Nat) (hn : n < 256) : (c.toNat : Int) = (n : Int) ↔ c = UInt8.ofNat n := by
  rw [Int.natCast_inj, ← UInt8.toNat_inj, UInt8.toNat_ofNat', Nat.mod_eq_of_lt (by simpa using hn)]
attribute [simp] idsE_tks idsE_strs
attribute [push_cast] idsE_tks idsE_strs all_tks all_strs length_tks length_strs wrap64 Bool.eq_true_or_eq_false_self Bool.eq_false_or_eq_true_self Bool.not_or_self Bool.or_not_self Bool.and_self Bool.or_self Bool.not_not Bool.and_not_self Bool.not_and_self
attribute [push_cast] ti1 ti2 ti3 ti4 ti5 ti6 ti7 ti8 ti9 ti10 ti11 ti12 ti13 ti14 ti15 ti16 ti17 ti18 ti19 ti20 ti21 ti22 ti23 ti25 ti27 ti28 ti29 ti30 ti31 ti32 ti33 et33 ti34 ti35 ti36 ti37 ti38 ti40 ti41 ti43 ti44 ti45 ti46 ti47 ti48 ti49 ti50 ti51 ti52 ti54 ti55 ti57 ti58 ti59 ti60 ti61 ti62 ti63 ti65 ti66 ti67 ti68 ti70 ti71 ti72 ti73 ti74 ti75 ti76 ti77 ti78 ti79 et79 ti80 ti81 ti82 ti84 ti85 ti86 ti87 ti88 ti89 ti90 ti91 et91 ti92 et92 ti94 ti95 ti96 ti98 ti99 ti100 ti102 ti103 ti104 ti105 ti106 ti108 ti110 ti111 ti112 ti113 ti114 ti115 et115 ti116 ti117 ti118 et118 ti119 ti120 et120 ti121 et121 ti122 ti123 et123 ti124 ti125 ti127 ti128 ti129 et129 ti130 et130 ti131 ti132 ti133 ti134 et134 ti135 et135 ti136 ti137 ti138 ti139 ti140 ti141 ti142 ti143 ti144 ti145 ti146 ti147 ti148 en2 en3 en4 en5 en6 en7 en8 en9 en10 en11 en12 en13 en14 en15 en16 en17 en18 en19 en20 en21 en22 en23 en24 en25 en26 en27 en28 en29 en30 en31 en32 en33 en34 en35 en36 en37 en39 en40 en41 en42 en43 en44 en45 en46 en47 en48 en49 en50 en51 en52 en53 en54 en55 en56 en57 en58 en59 en60 en61 en62 en63 en64 en66 en67 en69 en70 en71 en72 en73 en74 en77 en78 en79 en80 en81 en82 en83 en84 en85 en86 en87 en88 en89 en90 en91 en92 en93 en94 en95 en96 en97 en98 en99 en100 en101 en102 en133
end Go.Proofs
