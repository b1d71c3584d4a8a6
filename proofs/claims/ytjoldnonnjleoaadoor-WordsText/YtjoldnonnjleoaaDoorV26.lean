/- The library V, part 26: more rules. -/
import Derived.Test.YtjoldnonnjleoaaDoorV25
set_option linter.unusedVariables false
set_option linter.unusedSimpArgs false
namespace Go.V
open Go Go.RowKit
section
variable {P : Program} {G : Glob}
/-- An empty slice is looked at as an own row that lies nowhere. -/
theorem acalls_nil_own {f : FuncId} {args : List AV} {H : List Blk} {k : Nat} (h : ACalls P G f args H (.sl k [] (some 0)) H) (s : Nat) (t : TypeId) : ACalls P G f args H (.own H.length 0 0 none) (H ++ [.row s t []]) := fun S vals hok hG ha => by
  refine (h S vals hok hG ha).mono fun e w' ⟨v, S', he, hw, hok', hext, hr⟩ => ?_
  refine ⟨v, S'.nil H.length, he, hw, nil_ok hok' s t, hext.trans (nil_ext hok' s t), ?_⟩
  simp only [Rel] at hr
  obtain ⟨a, cap, hv, h1, h2, h3, h4⟩ := hr
  have := h3 0 rfl
  subst this
  refine rel_own_mk (s := s) (by rw [shOf_push_new]; rfl) (Nat.le_refl _) (.inl ⟨by simp [St.nil, upd_same], ⟨a, hv⟩, rfl, .inl rfl⟩)
end
end Go.V
