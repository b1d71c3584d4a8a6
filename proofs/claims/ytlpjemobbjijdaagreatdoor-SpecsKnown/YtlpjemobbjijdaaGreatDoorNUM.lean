import Derived.Test.YtlpjemobbjijdaaGreatDoorV33
import Derived.Test.YtlpjemobbjijdaaGreatDoorProg
import Derived.Shelf.Strings.Builder1
import Derived.KernelRfl
import Derived.Shelf.RegionOpenPlain
import Derived.Lib.AtoiTie
import Derived.Lib.ItoaNum
namespace Go.Proofs
open Go.Shelf Go.RowKit
set_option linter.unusedVariables false
set_option maxHeartbeats 1000000
set_option maxRecDepth 100000
theorem xaG9 (b : Nat) (w : World) (h0 : w.cell? ⟨b, 0, none⟩ = some (.pointer (some ⟨b, 0, none⟩))) :
  Calls Tryz.prog 91 #[.pointer (some ⟨b, 0, none⟩)] w fun e w' => e = .returned (.tuple #[]) ∧ w' = w := by
 obtain ⟨j, hj⟩ : ∃ j, Tryz.prog.info? 89 = some j := l'G.1 (by kernel_rfl);have t70 : Tryz.prog.underlying 87 = some (.pointer 89) := by kernel_rfl
 go_enter Tryz.func91, Tryz.ntmps91
 go_wp2
 rw [Lib.run_neq_ptr_same w _ t70 hj]
 go_wp2
 go_end0
 exact ⟨rfl, rfl⟩
theorem zdJ9 (k : Nat) : liesAt Tryz.prog Tryz.prog.depth 89 (k + 1) 0 89 1 = true := by kernel_rfl
theorem xaz9 (b k : Nat) (w : World) (h0 : w.cell? ⟨b, 0, none⟩ = some (.pointer none)) (hsh : w.shape? b = some (89, (k + 1) * 2)) (hfz : w.frozen? ⟨b, 0, none⟩ = false) :
  Calls Tryz.prog 91 #[.pointer (some ⟨b, 0, none⟩)] w fun e w' => e = .returned (.tuple #[]) ∧ w' = w.setCell ⟨b, 0, none⟩ (.pointer (some ⟨b, 0, none⟩)) := by
 obtain ⟨j, hj, hjs⟩ : ∃ j, Tryz.prog.info? 89 = some j ∧ j.size = 2 := n'H.1 (by kernel_rfl : (Tryz.prog.info? 89).map (·.size) = some 2);have t70 : Tryz.prog.underlying 87 = some (.pointer 89) := by kernel_rfl
 have t164 : Tryz.prog.underlying 169 = some .unsafePointer := by kernel_rfl
 have hc : Tryz.prog.cellsOf 89 = 2 := by kernel_rfl
 have hl : liesAt Tryz.prog Tryz.prog.depth 89 ((k + 1) * 2 / Tryz.prog.cellsOf 89) 0 89 1 = true := by
  rw [hc, Nat.mul_div_cancel _ (by decide)]; exact zdJ9 k
 go_enter Tryz.func91, Tryz.ntmps91
 go_wp2
 rw [Lib.run_to_unsafe w ⟨b, 0, none⟩ t70 t164 hj (by rw [hjs]; decide) hsh (show 0 < (k + 1) * 2 by omega)];simp only [Result.andThen];rw [Oper.upon_value]
 go_wp2
 rw [run_callFunc_extern Tryz.func118 (by kernel_rfl) (by kernel_rfl) (by kernel_rfl) (e := Extern.AbiNoEscape.same) (by kernel_rfl)];rw [Lib.run_noEscape];simp only [Result.andThen];rw [Oper.upon_value]
 go_wp2
 rw [Lib.run_from_unsafe w ⟨b, 0, none⟩ t164 t70 hj hsh hl];simp only [Result.andThen];rw [Oper.upon_value]
 go_wp2
 go_end0
 exact ⟨rfl, rfl⟩
theorem waG9 (b g cap : Nat) (cur : Array Value) (l : List UInt8) (w : World) (h0 : l ≠ []) (c0 : w.cell? ⟨b, 1, none⟩ = some (.slice (some ⟨g, 0, none⟩) l.length cap)) (hg : w.heap[g]? = some (.cells cur 5 (0, 0)))
  (h1 : l.length ≤ cap) (h2 : cap ≤ cur.size) (h3 : cap ≤ maxLen) (hc : ∀ (j : Nat) (x : UInt8), l[j]? = some x → cur[j]? = some (Value.int .u8 x.toNat)) :
  Calls Tryz.prog 52 #[.pointer (some ⟨b, 0, none⟩)] w fun e w' => e = .returned (.string ⟨l.toArray⟩) ∧ w' = w.drew.freeze ⟨g, 0, none⟩ l.length := by
 have c1 : w.drew.cell? ⟨b, 1, none⟩ = some (.slice (some ⟨g, 0, none⟩) l.length cap) := c0;have hl0 : l.length ≠ 0 := by simpa using h0
 have hSD : (Builtin.unsafeSliceData_ #[55] 145 #[.slice (some ⟨g, 0, none⟩) l.length cap]).run Tryz.prog w.drew = .ok (.pointer (some ⟨g, 0, none⟩)) w.drew :=
  Lib.run_unsafeSliceData_row _ _ _ _ _ _ (by omega)
 have t146 : Tryz.prog.underlying 145 = some (.pointer 5) := by kernel_rfl
 have hc5 : Tryz.prog.cellsOf 5 = 1 := by kernel_rfl
 have hUS : (Builtin.unsafeString_ #[145, 3] 9 #[.pointer (some ⟨g, 0, none⟩), .int .i64 l.length]).run Tryz.prog w.drew = .ok (.string ⟨l.toArray⟩) (w.drew.freeze ⟨g, 0, none⟩ l.length) := by
  refine Lib.run_unsafeString_row w.drew 145 3 9 5 t146 hc5 g cur.size (by have hg' : w.drew.heap[g]? = some (.cells cur 5 (0, 0)) := hg; simp [World.shape?, hg']) l h0 (by omega) (by unfold maxLen at h3; omega) ?_;intro j x hx;have hg' : w.drew.heap[g]? = some (.cells cur 5 (0, 0)) := hg;have e : ((⟨g, 0, none⟩ : Addr).add j) = ⟨g, j, none⟩ := by unfold Addr.add; split <;> simp_all
  rw [e];simp [World.cell?, hg', hc j x hx]
 have mixed : Tryz.prog.follows .mixedOrders = true := by kernel_rfl
 go_enter Tryz.func52, Tryz.ntmps52
 go_wp2
 go_region_o
 all_goals (go_wp2; go_ret; exact ⟨rfl, rfl⟩)
end Go.Proofs
namespace Go.Proofs
open Go Go.V
abbrev Bs := List UInt8
def vaL9 (sep : Bs) : Nat → Bs → List Bs
 | 0, s => [s]
 | k + 1, s => if Lib.index s sep == -1 then [s] else s.take (Lib.index s sep).toNat :: vaL9 sep k (s.drop ((Lib.index s sep).toNat + sep.length))
theorem waz9 (sep : Bs) : ∀ (k : Nat) (s : ByteArray), (Lib.splitB ⟨sep.toArray⟩ 0 k s).map (·.data.toList) = vaL9 sep k s.data.toList
 | 0, s => by simp [Lib.splitB, vaL9]
 | k + 1, s => by
  have hi : Lib.indexB s ⟨sep.toArray⟩ = Lib.index s.data.toList sep := by simp [Lib.indexB]
  unfold Lib.splitB vaL9;rw [hi];split
  ·simp
  ·rw [List.map_cons, waz9 sep k];have hsz : (ByteArray.mk sep.toArray).size = sep.length := rfl;have h2 : s.size = s.data.toList.length := by simp
   rw [hsz];simp only [ByteArray.data_extract, Array.toList_extract, List.extract, Nat.add_zero, List.drop_zero, Nat.sub_zero, h2];rw [l'y (i := s.data.toList.length - _) (by simp)]
theorem vaz9 (s sep : Bs) : kv0 s sep = vaL9 sep (Lib.count s sep) s := by
 unfold kv0;rw [waz9]
theorem kbt9 {s sep : Bs} (h : Lib.index s sep = -1) : kv0 s sep = [s] := by
 rw [vaz9, Lib.count_miss h]; rfl
theorem vbS9 {s sep : Bs} {i : Nat} (hs : sep ≠ []) (h : Lib.index s sep = i) : kv0 s sep = s.take i :: kv0 (s.drop (i + sep.length)) sep := by
 rw [vaz9, Lib.count_hit hs h, n'C, vaL9, h, if_neg (by simp; try omega), vaz9]; rfl
structure Mark (sep : Bs) (q : Nat) (c : UInt8) : Prop where
 h : sep[q]? = some c
 one : ∀ k, k < q → sep[k]? ≠ some c
theorem zbE9 {sep s : Bs} {q : Nat} {c : UInt8} (m : Mark sep q c) {i : Nat} (h : Lib.occAt s sep i = true) : s[i + q]? = some c := by
 unfold Lib.occAt at h;obtain ⟨t, ht⟩ := List.isPrefixOf_iff_prefix.1 h;rw [← l'Q, ← ht, l'f, m.h];exact (l'c.1 m.h).1
theorem wcO9 {sep p : Bs} {q : Nat} {c : UInt8} (m : Mark sep q c) (hp : ¬ c ∈ p) : Lib.index p sep = -1 := Lib.index_none fun j _ => by
 cases h : Lib.occAt p sep j with
 | false => rfl
 | true => exact absurd (l'l (zbE9 m h)) hp
theorem vcO9 {sep p r : Bs} {q : Nat} {c : UInt8} (m : Mark sep q c) (hp : ¬ c ∈ p) : Lib.index (p ++ (sep ++ r)) sep = p.length := Lib.index_first (by simp) (by unfold Lib.occAt; rw [List.drop_left]; exact List.isPrefixOf_iff_prefix.2 ⟨r, rfl⟩) fun j hj => by
 cases h : Lib.occAt (p ++ (sep ++ r)) sep j with
 | false => rfl
 | true =>
  exfalso;have e := zbE9 m h;rcases l'h (j + q) p.length with k|k
  ·rw [l'f k] at e;exact hp (l'l e)
  ·have hq := (l'c.1 m.h).1;rw [l'q k, l'f (by omega)] at e;exact m.one _ (by omega) e
theorem qt0 (p q : Bs) (r : List Bs) (sep : Bs) : Lib.join (p :: q :: r) sep = p ++ (sep ++ Lib.join (q :: r) sep) := by simp [Lib.join, List.intercalate, List.intersperse]
theorem join_one (p : Bs) (sep : Bs) : Lib.join [p] sep = p := by simp [Lib.join, List.intercalate]
theorem kaL9 {sep : Bs} {q : Nat} {c : UInt8} (m : Mark sep q c) : ∀ (l : List Bs), l ≠ [] → (∀ p ∈ l, ¬ c ∈ p) → kv0 (Lib.join l sep) sep = l
 | [], h, _ => absurd rfl h
 | [p], _, hp => by rw [join_one, kbt9 (wcO9 m (hp p (by simp)))]
 | p :: p2 :: r, _, hp => by
  have hs : sep ≠ [] := by rintro rfl; have := m.h; simp at this
  rw [qt0, vbS9 hs (vcO9 m (hp p (by simp))), n'i, ← l't, List.drop_left' (by simp)]
  ·rw [kaL9 m (p2 :: r) (by simp) fun x hx => hp x (l'v _ hx)]
  ·rfl
theorem zbi9 (sep : Bs) (x : Bs) : ∀ (l : List Bs), l ≠ [] → Lib.join (l ++ [x]) sep = Lib.join l sep ++ (sep ++ x)
 | [], h => absurd rfl h
 | [p], _ => by rw [List.cons_append, List.nil_append, qt0, join_one, join_one]
 | p :: q :: r, _ => by
  have ih := zbi9 sep x (q :: r) (by simp);rw [List.cons_append, List.cons_append, qt0, qt0, ← List.cons_append, ih]; simp
set_option maxRecDepth 100000
def numF (a : Int) : List UInt8 → Int
 | [] => a
 | c :: cs => numF (10 * a + ((c.toNat : Int) - 48)) cs
def digs (p : List UInt8) : Prop := ∀ c ∈ p, 48 ≤ c.toNat ∧ c.toNat ≤ 57
def qdc9 (p : List UInt8) : Prop := p ≠ [] ∧ digs p ∧ (1 < p.length → p.head? ≠ some 48)
instance (p : Bs) : Decidable (digs p) := inferInstanceAs (Decidable (∀ c ∈ p, 48 ≤ c.toNat ∧ c.toNat ≤ 57))
instance (p : Bs) : Decidable (qdc9 p) := inferInstanceAs (Decidable (_ ∧ _ ∧ _))
def numV (f : Bs) : Option Int := if qdc9 f ∧ f.length ≤ 3 then some (numF 0 f) else none
def qdT9 : List Bs → Option (List Int)
 | [] => some []
 | f :: r => match numV f, qdT9 r with|some x, some xs => some (x :: xs)|_, _ => none
end Go.Proofs
