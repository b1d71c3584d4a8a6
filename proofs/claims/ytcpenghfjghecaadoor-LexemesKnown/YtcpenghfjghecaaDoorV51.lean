/- The library V, part 51: rows of bytes, turned into texts. -/
import Derived.Test.YtcpenghfjghecaaDoorV50
set_option linter.unusedVariables false
set_option linter.unusedSimpArgs false
namespace Go.V
open Go Go.RowKit
def bytesL (bs : List UInt8) : List (List AV) := bs.map fun b => [.int .u8 ((b.toNat : Nat) : Int)]
theorem bytesA_bytesL : ∀ bs : List UInt8, bytesA (bytesL bs) = some bs
  | [] => rfl
  | b :: r => by
    show (bytesA (bytesL r)).map (UInt8.ofNat ((b.toNat : Nat) : Int).toNat :: ·) = _
    rw [bytesA_bytesL r, Int.toNat_natCast, UInt8.ofNat_toNat]; rfl
theorem length_bytesL (bs : List UInt8) : (bytesL bs).length = bs.length := by simp [bytesL]
theorem idsE_bytesL (p : Nat → Bool) (bs : List UInt8) : idsE p (bytesL bs) = true := idsE_map _ _ fun x => by simp [idsL, AV.ids]
theorem bytesL_snoc (bs : List UInt8) (b : UInt8) : bytesL bs ++ [[.int .u8 ((b.toNat : Nat) : Int)]] = bytesL (bs ++ [b]) := by simp [bytesL]
theorem bytesL_isEmpty (bs : List UInt8) : (bytesL bs).isEmpty = bs.isEmpty := by cases bs <;> rfl
attribute [simp] idsE_bytesL
attribute [push_cast] bytesA_bytesL length_bytesL idsE_bytesL
end Go.V
