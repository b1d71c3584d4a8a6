/- The library V, part 22: an empty slice that is about to grow is looked at as an own row that lies nowhere yet. -/
import Derived.Test.YtjoldnonnjleoaaDoorV21
set_option linter.unusedVariables false
set_option linter.unusedSimpArgs false
namespace Go.V
open Go Go.RowKit

section
variable {S : St} {H : List Blk}
/-- The state with one own row more, which lies nowhere. -/
def St.nil (S : St) (b : Nat) : St := { S with μ := upd S.μ b none }
theorem nil_ext (hok : S.Ok H) (s : Nat) (t : TypeId) : Ext H.length S H (S.nil H.length) (H ++ [.row s t []]) where
  os := rfl
  tape := rfl
  output := rfl
  size := Nat.le_refl _
  keep i hi hno := rfl
  M i o h := h
  dom i h := .inl h
  own i h := by
    obtain ⟨x, hx⟩ := h
    by_cases e : x < H.length
    · left
      refine ⟨x, ?_⟩
      simpa only [St.at, St.nil, List.getElem?_append_left e, upd_ne _ _ (show x ≠ H.length by omega)] using hx
    · by_cases e2 : x = H.length
      · subst e2
        simp [St.at, St.nil, upd_same] at hx
      · have : (H ++ [Blk.row s t []])[x]? = none := List.getElem?_eq_none (by simp; omega)
        simp [St.at, this] at hx
  sh x s' cur hx hs := ⟨cur, Nat.le_refl _, by rw [shOf_push_lt hx]; exact hs, fun _ => upd_ne _ _ (show x ≠ H.length by omega)⟩
  ν x g' hx hs := by rw [mpOf_push_lt hx]; exact hs
  len h := by simp
theorem nil_ok (hok : S.Ok H) (s : Nat) (t : TypeId) : (S.nil H.length).Ok (H ++ [.row s t []]) := by
  have hle := (nil_ext hok s t).le (Nat.le_refl _)
  have hat : ∀ x, x < H.length → (S.nil H.length).at (H ++ [.row s t []]) x = S.at H x := fun x e => by
    simp only [St.at, St.nil, List.getElem?_append_left e, upd_ne _ _ (show x ≠ H.length by omega)]
  have hlt : ∀ x g, (S.nil H.length).at (H ++ [.row s t []]) x = some g → x < H.length := fun x g hx => by
    by_cases e : x < H.length
    · exact e
    · by_cases e2 : x = H.length
      · subst e2; simp [St.at, St.nil, upd_same] at hx
      · have : (H ++ [Blk.row s t []])[x]? = none := List.getElem?_eq_none (by simp; omega)
        simp [St.at, this] at hx
  refine ⟨hok.imm, fun x s' t' es hx => ?_, fun x kt vt es hx => ?_, fun x y g hx hy => ?_⟩
  · by_cases e : x < H.length
    · rw [List.getElem?_append_left e] at hx
      rcases hok.row x s' t' es hx with q | ⟨g, k, cs, h1, h2, h3, h4, h5, h6, h7⟩
      · exact .inl ⟨(upd_ne _ _ (by omega)).trans q.1, q.2⟩
      · exact .inr ⟨g, k, cs, (upd_ne _ _ (by omega)).trans h1, h2, h3, h4, h5, h6, h7.mono hle⟩
    · have e2 : x = H.length := by
        have := (List.getElem?_eq_some_iff.1 hx).1
        simp at this; omega
      subst e2
      simp at hx
      exact .inl ⟨upd_same _ _ _, hx.2.2⟩
  · by_cases e : x < H.length
    · rw [List.getElem?_append_left e] at hx
      obtain ⟨g, ents, clock, h1, h2, h3, h4⟩ := hok.map x kt vt es hx
      exact ⟨g, ents, clock, h1, h2, h3, h4.mono hle⟩
    · have e2 : x = H.length := by
        have := (List.getElem?_eq_some_iff.1 hx).1
        simp at this; omega
      subst e2
      simp at hx
  · have q1 := hlt x g hx
    have q2 := hlt y g hy
    rw [hat x q1] at hx; rw [hat y q2] at hy
    exact hok.inj x y g hx hy
end

theorem weak_nil {n0 n t z sz : Nat} {ty : TypeId} {s : Nat → AV} {H : List Blk} (h : s t = .sl z [] (some 0)) :
    Weak n0 (Lst n s) H (Lst n (updS s t (.own H.length 0 0 none))) (H ++ [.row sz ty []]) := fun S vs hok hn ha => by
  have hext := nil_ext hok sz ty
  refine ⟨S.nil H.length, rfl, nil_ok hok sz ty, hext.less hn (Nat.le_refl _), ?_⟩
  have hle := hext.le (Nat.le_refl _)
  refine RelL.mk (by rw [← ha.length]; simp [length_Lst]) fun i a v hi hv => ?_
  have hil : i < n := by have := (List.getElem?_eq_some_iff.1 hi).1; simpa [length_Lst] using this
  simp only [Lst, List.getElem?_map, List.getElem?_range hil, Option.map_some, Option.some.injEq] at hi
  subst hi
  obtain ⟨v', hv', hr⟩ := ha.get (i := i) (a := s i) (by simp [Lst, List.getElem?_range hil])
  rw [hv] at hv'; injection hv' with hv'; subst hv'
  unfold updS
  split
  · rename_i e; subst e
    rw [h] at hr
    simp only [Rel] at hr
    obtain ⟨a, cap, rfl, h1, h2, h3, h4⟩ := hr
    have : cap = 0 := h3 0 rfl
    subst this
    simp only [Rel]
    refine ⟨sz, 0, by simp [St.env, shOf], Nat.le_refl _, fun _ => ⟨Nat.le_refl _, .inl ⟨upd_same _ _ _, ⟨a, rfl⟩, by simp⟩⟩⟩
  · exact Rel.mono hle _ _ hr
end Go.V
