import Derived.Test.YtbgdagokjfmcbaaGreatDoorD5
namespace Go.Proofs
open Go Go.V
set_option linter.unusedVariables false
set_option linter.unusedSimpArgs false
set_option maxHeartbeats 0
def diffAt (l r : List Row) (s i : Nat) : Ed := ⟨s, i, edgeM l s i, edgeM r s i⟩
def differs (x : Ed) : Bool := !(decide (x.old.1 = x.new.1) && decide (x.old.2 = x.new.2))
def diffRow (l r : List Row) (I s : Nat) : List Ed := ((List.range I).map (diffAt l r s)).filter differs
def diffEds (l r : List Row) (S I : Nat) : List Ed := (List.range S).flatMap (diffRow l r I)
theorem diffRow_succ (l r : List Row) (I s : Nat) : diffRow l r (I + 1) s = diffRow l r I s ++ bif differs (diffAt l r s I) then [diffAt l r s I] else [] := by
 rw [diffRow, List.range_succ, List.map_append, List.filter_append]
 simp only [List.map_cons, List.map_nil, List.filter_cons, List.filter_nil]
 cases differs (diffAt l r s I) <;> rfl
theorem diffEds_succ (l r : List Row) (S I : Nat) : diffEds l r (S + 1) I = diffEds l r S I ++ diffRow l r I S := by
 rw [diffEds, List.range_succ, List.flatMap_append]; simp [diffEds]
theorem length_diffRow (l r : List Row) (I s : Nat) : (diffRow l r I s).length ≤ I := by
 have := List.length_filter_le differs ((List.range I).map (diffAt l r s))
 simpa [diffRow] using this
theorem length_diffEds (l r : List Row) (S I : Nat) : (diffEds l r S I).length ≤ S * I := by
 induction S with
 | zero => simp [diffEds]
 | succ S ih =>
  rw [diffEds_succ, List.length_append, Nat.succ_mul]
  have := length_diffRow l r I S
  omega
def accE (l r : List Row) (I k j : Nat) : List Ed := diffEds l r k I ++ diffRow l r j k
def diffM (i o : Int) (l : List Row) (o' : Int) (r : List Row) : Pt := ⟨i, o, o', l.length, r.length, diffEds l r (max l.length r.length) i.toNat⟩
def Wide (i : Int) (l : List Row) : Prop := ∀ s, s < l.length → ((l.getD s ([], none)).1.length : Int) = i
theorem Wide.len {i : Int} {l : List Row} (h : Wide i l) (s k : Nat) (hk : (k : Int) < i) : (s : Int) < l.length → (k : Int) < rowLen l s := fun hs => by
 have := h s (by omega)
 unfold rowLen
 rw [Int.toNat_natCast]
 omega
end Go.Proofs
