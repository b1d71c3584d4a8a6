import Derived.Test.YtfdnlhegmdhcjaaDoorV51
namespace Go.Proofs
open Go Go.V
abbrev Bs := List UInt8
def splitK (sep : Bs) : Nat → Bs → List Bs
 | 0, s => [s]
 | k + 1, s => if Lib.index s sep == -1 then [s] else s.take (Lib.index s sep).toNat :: splitK sep k (s.drop ((Lib.index s sep).toNat + sep.length))
theorem splitB_list (sep : Bs) : ∀ (k : Nat) (s : ByteArray), (Lib.splitB ⟨sep.toArray⟩ 0 k s).map (·.data.toList) = splitK sep k s.data.toList
 | 0, s => by simp [Lib.splitB, splitK]
 | k + 1, s => by
  have hi : Lib.indexB s ⟨sep.toArray⟩ = Lib.index s.data.toList sep := by simp [Lib.indexB]
  unfold Lib.splitB splitK
  rw [hi]
  split
  ·simp
  ·rw [List.map_cons, splitB_list sep k]
   have hsz : (ByteArray.mk sep.toArray).size = sep.length := rfl
   have h2 : s.size = s.data.toList.length := by simp
   rw [hsz]
   simp only [ByteArray.data_extract, Array.toList_extract, List.extract, Nat.add_zero, List.drop_zero, Nat.sub_zero, h2]
   rw [List.take_of_length_le (i := s.data.toList.length - _) (by simp)]
theorem splitM_eq (s sep : Bs) : splitM s sep = splitK sep (Lib.count s sep) s := by
 unfold splitM
 rw [splitB_list]
theorem splitM_miss {s sep : Bs} (h : Lib.index s sep = -1) : splitM s sep = [s] := by
 rw [splitM_eq, Lib.count_miss h]; rfl
theorem splitM_hit {s sep : Bs} {i : Nat} (hs : sep ≠ []) (h : Lib.index s sep = i) : splitM s sep = s.take i :: splitM (s.drop (i + sep.length)) sep := by
 rw [splitM_eq, Lib.count_hit hs h, Nat.add_comm, splitK, h, if_neg (by simp; try omega), splitM_eq]; rfl
structure Mark (sep : Bs) (q : Nat) (c : UInt8) : Prop where
 h : sep[q]? = some c
 one : ∀ k, k < q → sep[k]? ≠ some c
theorem occ_mark {sep s : Bs} {q : Nat} {c : UInt8} (m : Mark sep q c) {i : Nat} (h : Lib.occAt s sep i = true) : s[i + q]? = some c := by
 unfold Lib.occAt at h
 obtain ⟨t, ht⟩ := List.isPrefixOf_iff_prefix.1 h
 rw [← List.getElem?_drop, ← ht, List.getElem?_append_left, m.h]
 exact (List.getElem?_eq_some_iff.1 m.h).1
theorem idx_none {sep p : Bs} {q : Nat} {c : UInt8} (m : Mark sep q c) (hp : ¬ c ∈ p) : Lib.index p sep = -1 := Lib.index_none fun j _ => by
 cases h : Lib.occAt p sep j with
 | false => rfl
 | true => exact absurd (List.mem_of_getElem? (occ_mark m h)) hp
theorem idx_join {sep p r : Bs} {q : Nat} {c : UInt8} (m : Mark sep q c) (hp : ¬ c ∈ p) : Lib.index (p ++ (sep ++ r)) sep = p.length := Lib.index_first (by simp) (by unfold Lib.occAt; rw [List.drop_left]; exact List.isPrefixOf_iff_prefix.2 ⟨r, rfl⟩) fun j hj => by
 cases h : Lib.occAt (p ++ (sep ++ r)) sep j with
 | false => rfl
 | true =>
  exfalso
  have e := occ_mark m h
  rcases Nat.lt_or_ge (j + q) p.length with k|k
  ·rw [List.getElem?_append_left k] at e
   exact hp (List.mem_of_getElem? e)
  ·have hq := (List.getElem?_eq_some_iff.1 m.h).1
   rw [List.getElem?_append_right k, List.getElem?_append_left (by omega)] at e
   exact m.one _ (by omega) e
theorem join_cons2 (p q : Bs) (r : List Bs) (sep : Bs) : Lib.join (p :: q :: r) sep = p ++ (sep ++ Lib.join (q :: r) sep) := by simp [Lib.join, List.intercalate, List.intersperse]
theorem join_one (p : Bs) (sep : Bs) : Lib.join [p] sep = p := by simp [Lib.join, List.intercalate]
theorem split_join {sep : Bs} {q : Nat} {c : UInt8} (m : Mark sep q c) : ∀ (l : List Bs), l ≠ [] → (∀ p ∈ l, ¬ c ∈ p) → splitM (Lib.join l sep) sep = l
 | [], h, _ => absurd rfl h
 | [p], _, hp => by rw [join_one, splitM_miss (idx_none m (hp p (by simp)))]
 | p :: p2 :: r, _, hp => by
  have hs : sep ≠ [] := by rintro rfl; have := m.h; simp at this
  rw [join_cons2, splitM_hit hs (idx_join m (hp p (by simp))), List.take_left', ← List.append_assoc, List.drop_left' (by simp)]
  ·rw [split_join m (p2 :: r) (by simp) fun x hx => hp x (List.mem_cons_of_mem _ hx)]
  ·rfl
end Go.Proofs
