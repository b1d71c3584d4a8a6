import Derived.Test.YtjoldnonnjleoaaDoorTW
import Derived.Test.YtjoldnonnjleoaaDoorV25
import Derived.Test.YtjoldnonnjleoaaDoorWShelf
/- Words: what all walks of this seat share. -/
namespace Go.Proofs
open Go Go.V
set_option linter.unusedVariables false
set_option linter.unusedSimpArgs false
/-- What is known of the package-level variables: strconv's errors, the powers of ten, bytealg's bound. -/
def G0 : Glob := fun g => match g with | 0 => some [.err] | 1 => some [.err] | 2 => some pow10G | 3 => some [.anyi .i64] | _ => none
def ints (xs : List Int) : List (List AV) := xs.map fun x => [.int .i64 x]
theorem length_ints (xs : List Int) : (ints xs).length = xs.length := by simp [ints]
theorem getD_ints (xs : List Int) (i : Nat) (h : i < xs.length) : (ints xs).getD i [] = [.int .i64 (xs.getD i 0)] := by simp [ints, h]
theorem all_ints (xs : List Int) : ((ints xs).all fun e => e.all fun x => AV.ids none_ x) = true := by simp [ints, AV.ids]
theorem idsE_ints (xs : List Int) : idsE none_ (ints xs) = true := idsE_map _ _ fun x => by simp [idsL, AV.ids]
theorem ints_nil : ints [] = [] := rfl
theorem ints_snoc (xs : List Int) (x : Int) : ints xs ++ [[.int .i64 x]] = ints (xs ++ [x]) := by simp [ints]
theorem wrap64 (n : Int) (h1 : -9223372036854775808 ≤ n) (h2 : n < 9223372036854775808) : IntKind.i64.wrap n = n := by rw [IntKind.wrap_i64]; omega
theorem getD_set_same {α : Type} (l : List α) (i : Nat) (v d : α) (h : i < l.length) : (l.set i v).getD i d = v := by simp [List.getD_eq_getElem?_getD, h]
theorem take_succ_getD (xs : List Int) (k : Nat) (h : k < xs.length) : xs.take (k + 1) = xs.take k ++ [xs.getD k 0] := by
  rw [List.take_succ_eq_append_getElem h]; simp [h]
theorem drop_getD (xs : List Int) (k : Nat) (h : k < xs.length) : xs.drop k = xs.getD k 0 :: xs.drop (k + 1) := by
  rw [List.drop_eq_getElem_cons h]; simp [h]
def LW : LibIds := { itoa := 41, atoi := 45, split := 44, join := 42, clone := [51] }
end Go.Proofs
