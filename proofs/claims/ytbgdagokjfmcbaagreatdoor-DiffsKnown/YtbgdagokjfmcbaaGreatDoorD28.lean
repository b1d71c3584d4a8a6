import Derived.Test.YtbgdagokjfmcbaaGreatDoorD24
import Derived.Test.YtbgdagokjfmcbaaGreatDoorD9
import Derived.Test.YtbgdagokjfmcbaaGreatDoorV42
namespace Go.Proofs
open Go Go.V
set_option linter.unusedVariables false
set_option linter.unusedSimpArgs false
set_option maxHeartbeats 0
structure Ch where
 at_ : Nat
 to : Nat
 out : Nat
 w : Nat
def cD : Ch := ⟨0, 0, 0, 0⟩
def Ch.Ok (c : Ch) : Prop := c.at_ < 256 ∧ c.to < 256 ∧ c.out < 256 ∧ c.w < 256
def chA (L : List Ch) : List (List AV) := L.map fun c => [.int .u8 c.at_, .int .u8 c.to, .int .u8 c.out, .int .u8 c.w]
theorem length_chA (L : List Ch) : (chA L).length = L.length := by simp [chA]
theorem idsE_chA (p : Nat → Bool) (L : List Ch) : idsE p (chA L) = true := idsE_map _ _ fun x => by simp [idsL, AV.ids]
theorem all_chA (p : Nat → Bool) (L : List Ch) : ((chA L).all fun e => e.all fun x => AV.ids p x) = true := all_of_idsE (idsE_chA p L)
attribute [simp] idsE_chA
attribute [push_cast] all_chA length_chA idsE_chA
abbrev Rs := List (List Edg)
def chE (N O : Nat) (c : Ch) : Edg := if c.w % 4 = 0 then (-1, -1) else (((c.to % N : Nat) : Int), ((c.out % O : Nat) : Int))
def chM (I O : Nat) (rs : Rs) (c : Ch) : Rs := rs.set (c.at_ % (rs.length * I) / I) ((rs.getD (c.at_ % (rs.length * I) / I) []).set (c.at_ % (rs.length * I) % I) (chE rs.length O c))
def chN (I O : Nat) (rs : Rs) (L : List Ch) : Nat → Rs
 | 0 => rs
 | k + 1 => chM I O (chN I O rs L k) (L.getD k cD)
def usedN (rs : Rs) (I s i : Nat) : Bool := decide (rs.length = 1) || (List.range s).any (fun q => (List.range I).any fun j => decide (q + 1 < rs.length) && decide (((rs.getD q []).getD j (0, 0)).1 = rs.length - 1)) || (List.range i).any fun j => decide (s + 1 < rs.length) && decide (((rs.getD s []).getD j (0, 0)).1 = rs.length - 1)
def usedM (I : Nat) (rs : Rs) : Bool := usedN rs I rs.length 0
def moreM (rs : Rs) (b : Bool) : Rs := if b = true then rs ++ [rs.getD 0 []] else rs
def lessM (I : Nat) (rs : Rs) (b : Bool) : Rs := if (b && !usedM I rs) = true then rs.take (rs.length - 1) else rs
def nextM (I O : Nat) (rs : Rs) (L : List Ch) (more less : Bool) : Rs := lessM I (chN I O (moreM rs more) L (min 6 L.length)) less
def vC (x : MD) (z : Nat) (c : Option Nat) (L : List Ch) (y : Nat) (d : Option Nat) (more less : Bool) : List AV := [.int .u8 x.st, .int .u8 x.inp, .int .u8 x.ou, .bool x.pa, .sl z (u16s x.es) c, .sl y (chA L) d, .bool more, .bool less]
def nH (I O : Nat) (l : List Row) (c : Option Nat) (x : MD) (z : Nat) (c2 : Option Nat) (L : List Ch) (y : Nat) (d : Option Nat) (more less : Bool) (N : Nat) (rss : List (List (List AV))) : List Blk :=
 .row 3 30 [[.int .i64 I, .int .i64 O, .sl 1 (rowsA l) c]] :: .row 8 27 [vC x z c2 L y d more less] :: .row 3 30 [[.int .i64 0, .int .i64 0, .sl 0 [] (some 0)]] :: .row 3 30 [[.int .i64 I, .int .i64 O, .own 4 N N none]] :: .row 1 98 (ownR 5 I none N) :: rowBs 2 58 rss
theorem rowA_set (r : List Edg) (v : Nat) (a b : Int) : (rowA r).set v [.int .i64 a, .int .i64 b] = rowA (r.set v (a, b)) := by rw [rowA, rowA, List.map_set]; rfl
theorem mapA_set (R : Rs) (u : Nat) (r : List Edg) : (R.map rowA).set u (rowA r) = (R.set u r).map rowA := by rw [List.map_set]
theorem getD_mapA (R : Rs) (u : Nat) : (R.map rowA).getD u [] = rowA (R.getD u []) := by
 rw [List.getD_eq_getElem?_getD, List.getD_eq_getElem?_getD, List.getElem?_map]
 cases R[u]? <;> rfl
def WideR (I : Nat) (R : Rs) : Prop := ∀ s, s < R.length → (R.getD s []).length = I
theorem MD.edges (x : MD) : edgesOf (x.rows x.n) = (List.range x.n).map fun s => x.row s x.I := by simp [edgesOf, MD.rows]
def MD.nxt (x : MD) (L : List Ch) (more less : Bool) : Rs := nextM x.I x.O (edgesOf (x.rows x.n)) L more less
def rowsN (R : Rs) : List Row := R.map fun r => (r, none)
end Go.Proofs
