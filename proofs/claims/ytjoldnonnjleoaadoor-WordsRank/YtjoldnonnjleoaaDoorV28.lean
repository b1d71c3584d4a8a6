/- The library V, part 28: all that is own becomes immutable, in the middle of a walk. -/
import Derived.Test.YtjoldnonnjleoaaDoorV27
set_option linter.unusedVariables false
set_option linter.unusedSimpArgs false
namespace Go.V
open Go Go.RowKit
/-- A goal at which a walk stops. -/
inductive Halt (p : Prop) : Prop where
  | mk (h : p)
  | mk' (h : p)
/-- What a slot holds when all own blocks have become immutable. -/
def closeT (H : List Blk) (d : Nat) (a : AV) : AV := if okA H d a = true then closeA H d a else .top
theorem closeT_ok {S : St} {H : List Blk} (hok : S.Ok H) (d : Nat) {a : AV} {v : Value} (h : Rel (S.env H) a v) : Rel ((S.freeze H).env []) (closeT H d a) v := by
  unfold closeT
  split
  · rename_i h1; exact closeA_ok hok d _ _ h1 h
  · simp [Rel]
theorem weak_close {n : Nat} {s : Nat → AV} {H : List Blk} (d : Nat) : Weak 0 (Lst n s) H (Lst n fun k => closeT H d (s k)) [] := fun S vs hok hn ha => by
  refine ⟨S.freeze H, rfl, freeze_ok hok, freeze_ext hok, ?_⟩
  refine RelL.mk (by rw [← ha.length]; simp [length_Lst]) fun i a v hi hv => ?_
  have hi' : i < n := by
    have := (List.getElem?_eq_some_iff.1 hi).1
    simpa [length_Lst] using this
  have e : (Lst n s)[i]? = some (s i) := by simp [Lst, hi']
  have e2 : (Lst n fun k => closeT H d (s k))[i]? = some (closeT H d (s i)) := by simp [Lst, hi']
  rw [e2] at hi
  injection hi with hi; subst hi
  obtain ⟨u, hu, hr⟩ := ha.get e
  rw [hu] at hv
  injection hv with hv; subst hv
  exact closeT_ok hok d hr
section
variable {P : Program} {G : Glob} {n0 n : Nat} {p : List Nat} {Q : Exit → (Nat → AV) → List Blk → Prop} {B : Prop} {s : Nat → AV} {H : List Blk}
theorem stop_at {body : Code} (h : Halt (V.Go P G n0 n body p Q B s H)) : V.Go P G n0 n body p Q B s H := by cases h <;> assumption
theorem go_close {body : Code} (d : Nat) (hB : B) (h : ∀ s1 : Nat → AV, (∀ k, s1 k = closeT H d (s k)) → V.Go P G 0 n body p Q True s1 []) : V.Go P G 0 n body p Q B s H :=
  go_weak hB (weak_close d) (h _ fun k => rfl)
end
end Go.V
