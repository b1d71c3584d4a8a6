import Derived.Test.YtlpjemobbjijdaaGreatDoorS26
namespace Go.Proofs
open Go Go.V
set_option linter.unusedVariables false
set_option linter.unusedSimpArgs false
set_option maxHeartbeats 0
set_option maxRecDepth 100000
def GS.l3 (x : GS) : List (List Bs) := [x.ins, x.outs, x.sts]
structure GS.Big (x : GS) : Prop where
 r : x.rows = [] ∨ x.zr = 1
 i : x.ins = [] ∨ x.zi = 1
 o : x.outs = [] ∨ x.zo = 1
 s : x.sts = [] ∨ x.zs = 1
 lr : x.rows.length ≤ 9223372036854775807
 lw : ∀ j, j < x.rows.length → (x.rows.getD j ([], none)).1.length ≤ 9223372036854775807
 li : x.ins.length ≤ 9223372036854775807
 lo : x.outs.length ≤ 9223372036854775807
 ls : x.sts.length ≤ 9223372036854775807
 ln : x.nm.length ≤ 9223372036854775807
 lm : ∀ l ∈ x.l3, ∀ s ∈ l, s.length ≤ 9223372036854775807
def grA (x : GS) : Bool := decide (70 < x.rows.length) || decide (20 < x.ins.length) || decide (20 < x.outs.length) || decide (70 < x.sts.length) || decide (40 < x.nm.length)
def ken9 (x : GS) : Bool := grA x || (edgesOf x.rows).any (fun r => decide (20 < r.length)) || x.l3.any fun l => l.any fun s => decide (40 < s.length)
def l3A (x : GS) : List (List AV) := [[.sl x.zi (strs x.ins) x.ci], [.sl x.zo (strs x.outs) x.co], [.sl x.zs (strs x.sts) x.cs]]
def l3Z (x : GS) (k : Nat) : Nat := match k with|0 => x.zi|1 => x.zo|_ => x.zs
def l3C (x : GS) (k : Nat) : Option Nat := match k with|0 => x.ci|1 => x.co|_ => x.cs
theorem vbx9 {l : List Bs} {i : Nat} (hi : i < l.length) : idxI l (l.getD i []) < i ↔ ∃ j, j < i ∧ l.getD j [] = l.getD i [] := by
 constructor
 ·intro h
  apply Classical.byContradiction
  intro hno
  have hb : ∀ j, j < i → decide (l.getD j [] = l.getD i []) = false := fun j hj => decide_eq_false fun e => hno ⟨j, hj, e⟩
  rw [idxI, wD0 _ [] l i hb hi (by simp)] at h
  omega
 ·rintro ⟨j, hj, e⟩
  -- the least one
  have : ∀ n, n ≤ j → (∃ m, m ≤ n ∧ l.getD m [] = l.getD i []) → idxI l (l.getD i []) ≤ n := by
   intro n
   induction n using Nat.strongRecOn with
   | ind n ih =>
    intro hn ⟨m, hm, em⟩
    by_cases hl : ∃ m', m' < m ∧ l.getD m' [] = l.getD i []
    ·obtain ⟨m', h1, h2⟩ := hl
     have := ih m' (by omega) (by omega) ⟨m', Nat.le_refl _, h2⟩
     omega
    ·have hb : ∀ j, j < m → decide (l.getD j [] = l.getD i []) = false := fun j hj => decide_eq_false fun e => hl ⟨j, hj, e⟩
     rw [idxI, wD0 _ [] l m hb (by omega) (by simpa using em)]
     omega
  have := this j (Nat.le_refl _) ⟨j, Nat.le_refl _, e⟩
  omega
theorem nodup_iff {l : List Bs} : l.Nodup ↔ ∀ i, i < l.length → ¬ idxI l (l.getD i []) < i := by
 constructor
 ·intro h i hi hlt
  obtain ⟨j, hj, e⟩ := (vbx9 hi).1 hlt
  rw [List.getD_eq_getElem?_getD, List.getD_eq_getElem?_getD, List.getElem?_eq_getElem hi, List.getElem?_eq_getElem (by omega : j < l.length), Option.getD_some, Option.getD_some] at e
  have := (List.getElem_inj h).1 e
  omega
 ·intro h
  refine List.pairwise_iff_getElem.2 fun i j hi hj hij e => ?_
  refine h j hj ((vbx9 hj).2 ⟨i, hij, ?_⟩)
  rw [List.getD_eq_getElem?_getD, List.getD_eq_getElem?_getD, List.getElem?_eq_getElem hi, List.getElem?_eq_getElem hj, Option.getD_some, Option.getD_some, e]
end Go.Proofs
