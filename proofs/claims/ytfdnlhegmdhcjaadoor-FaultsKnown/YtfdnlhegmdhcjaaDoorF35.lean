import Derived.Test.YtfdnlhegmdhcjaaDoorF23
namespace Go.Proofs
open Go Go.V
set_option linter.unusedVariables false
set_option linter.unusedSimpArgs false
set_option maxHeartbeats 0
def bE (s i : Nat) : Edg := ((((s + i) % 64 : Nat) : Int), (i : Int))
def bRow (s k : Nat) : List Edg := (List.range k).map (bE s)
def bRows (n : Nat) : List Row := (List.range n).map fun s => (bRow s 16, some 16)
theorem bRow_succ (s k : Nat) : bRow s (k + 1) = bRow s k ++ [bE s k] := by simp [bRow, List.range_succ]
theorem bRows_succ (n : Nat) : bRows (n + 1) = bRows n ++ [(bRow n 16, some 16)] := by simp [bRows, List.range_succ]
theorem bRow_len (s k : Nat) : (bRow s k).length = k := by simp [bRow]
theorem bRows_len (n : Nat) : (bRows n).length = n := by simp [bRows]
def bCells (s i : Nat) : List (List AV) := rowA (bRow s i) ++ List.replicate (16 - i) [.int .i64 0, .int .i64 0]
theorem bCells_len (s i : Nat) (h : i ≤ 16) : (bCells s i).length = 16 := by simp [bCells, rowA, bRow_len]; omega
theorem bCells_set (s i : Nat) (h : i < 16) : (bCells s i).set i (eA (bE s i)) = bCells s (i + 1) := by
 have h1 : (rowA (bRow s i)).length = i := by rw [length_rowA, bRow_len]
 unfold bCells
 rw [List.set_append_right _ _ (by omega), h1, Nat.sub_self, show 16 - i = (16 - (i + 1)) + 1 by omega, List.replicate_succ, List.set_cons_zero, bRow_succ]
 simp [rowA]
theorem bCells_get (s i : Nat) (h : i < 16) : List.drop 2 ((bCells s i)[i]?.getD []) = [] := by
 have h1 : (rowA (bRow s i)).length = i := by rw [length_rowA, bRow_len]
 unfold bCells
 rw [List.getElem?_append_right (by omega), h1, Nat.sub_self, show 16 - i = (16 - (i + 1)) + 1 by omega, List.replicate_succ]
 rfl
end Go.Proofs
