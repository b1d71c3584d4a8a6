import Derived.Test.YtnlbodnipgkpaaaDoorCP5
import Derived.Test.YtnlbodnipgkpaaaDoorSPL
/- Classes: texts, divided at " | " and at blanks: plain. -/
namespace Go.Proofs
open Go Go.V
def bar : Bs := [32, 124, 32]
def blank : Bs := [32]
theorem mark_bar : Mark bar 1 124 := ⟨rfl, fun k hk => by
  obtain rfl : k = 0 := by omega
  simp [bar]⟩
theorem mark_blank : Mark blank 0 32 := ⟨rfl, fun k hk => by omega⟩
/-! ### The text of a partition -/
def numT (i : Nat) : Bs := Lib.itoa (i : Int)
def blkT (l : List Nat) : Bs := Lib.join (l.map numT) blank
def textC (p : List Int) : Bs := if p = [] then [45] else Lib.join ((blocksM p).map blkT) bar
/-- The document's way. -/
def numsT (l : List Nat) : Bs := l.flatMap fun i => 32 :: numT i
def partsT (p : List Int) (n : Nat) : Bs := (List.range n).flatMap fun b => (if 0 < b then [32, 124] else []) ++ numsT (idxs p b)
def refT (p : List Int) : Bs := if p = [] then [45] else (partsT p (countM p)).drop 1
theorem join_blank : ∀ (l : List Nat), l ≠ [] → numsT l = 32 :: blkT l
  | [], h => absurd rfl h
  | [i], _ => by simp [numsT, blkT, join_one]
  | i :: j :: r, _ => by
    have ih := join_blank (j :: r) (by simp)
    have e : blkT (i :: j :: r) = numT i ++ (blank ++ blkT (j :: r)) := by simp only [blkT, List.map_cons]; exact join_cons2 _ _ _ _
    rw [numsT, List.flatMap_cons, ← numsT, ih, e]
    simp [blank]
theorem parts_succ (p : List Int) (n : Nat) : partsT p (n + 1) = partsT p n ++ ((if 0 < n then [32, 124] else []) ++ numsT (idxs p n)) := by simp [partsT, List.range_succ]
theorem parts_join {p : List Int} (h : ∀ b, b < countM p → idxs p b ≠ []) : ∀ n, 1 ≤ n → n ≤ countM p → partsT p n = 32 :: Lib.join (((List.range n).map (idxs p)).map blkT) bar
  | 0, h1, _ => by omega
  | 1, _, h2 => by
    rw [parts_succ, if_neg (by omega), join_blank _ (h 0 (by omega))]
    simp [partsT, List.range_succ, join_one]
  | n + 2, _, h2 => by
    rw [parts_succ, parts_join h (n + 1) (by omega) (by omega), if_pos (by omega), join_blank _ (h (n + 1) (by omega))]
    rw [List.range_succ (n := n + 1), List.map_append, List.map_append, List.map_cons, List.map_nil, List.map_cons, List.map_nil, join_snoc _ _ _ (by simp [List.range_succ])]
    simp [bar]
theorem valid_one {p : List Int} (h : Valid p) (hn : p ≠ []) : 1 ≤ countM p := by
  have hl : 0 < p.length := List.length_pos_iff.2 hn
  have := valid_range h hl; omega
theorem text_ref {p : List Int} (h : Valid p) : refT p = textC p := by
  unfold refT textC
  by_cases hp : p = []
  · rw [if_pos hp, if_pos hp]
  · rw [if_neg hp, if_neg hp, parts_join (fun b hb => idxs_ne h hb) _ (valid_one h hp) (Nat.le_refl _)]; rfl
/-! ### Reading -/
abbrev KV := List (Int × Int)
def updK (m : KV) (k v : Int) : KV := if m.any (fun x => decide (x.1 = k)) then m.map fun x => if x.1 = k then (k, v) else x else m ++ [(k, v)]
def lookK (m : KV) (k : Int) : Option Int := (m.find? fun x => decide (x.1 = k)).map (·.2)
/-- The numbers of a piece. -/
def readB (m : KV) (b : Int) : List Bs → Option KV
  | [] => some m
  | x :: r => if (atoiM x).2 = true then readB (updK m (atoiM x).1 b) b r else none
def readP (m : KV) (b : Int) : List Bs → Option KV
  | [] => some m
  | x :: r => match readB m b (splitM x blank) with | some m' => readP m' (b + 1) r | none => none
def fromK (m : KV) : Nat → Option (List Int)
  | 0 => some []
  | n + 1 => match fromK m n, lookK m n with | some l, some v => some (l ++ [v]) | _, _ => none
def parseC (s : Bs) : List Int × Int :=
  if 65536 < s.length then ([], 3) else if s = [45] then ([], 0) else
  match readP [] 0 (splitM s bar) with
  | none => ([], 4)
  | some m => if 256 < m.length then ([], 4) else match fromK m m.length with
    | none => ([], 4)
    | some p => if checkC p = 0 ∧ textC p = s then (p, 0) else ([], 4)
theorem parse_sound {s : Bs} (hs : s.length ≤ 65536) : parseC s = ([], 4) ∨ ((parseC s).2 = 0 ∧ checkC (parseC s).1 = 0 ∧ textC (parseC s).1 = s) := by
  unfold parseC
  rw [if_neg (by omega)]
  by_cases h : s = [45]
  · rw [if_pos h]; exact .inr ⟨rfl, rfl, by rw [h]; rfl⟩
  · rw [if_neg h]
    cases readP [] 0 (splitM s bar) with
    | none => exact .inl rfl
    | some m =>
      dsimp only
      split
      · exact .inl rfl
      · cases fromK m m.length with
        | none => exact .inl rfl
        | some p =>
          dsimp only
          split
          · rename_i q; exact .inr ⟨rfl, q.1, q.2⟩
          · exact .inl rfl
end Go.Proofs
