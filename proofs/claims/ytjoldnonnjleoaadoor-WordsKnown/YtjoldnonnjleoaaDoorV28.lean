/- The library V, part 28: all that is own becomes immutable, in the middle of a walk. -/
import Derived.Test.YtjoldnonnjleoaaDoorV22
/- The library V, part 26: more rules. -/
set_option linter.unusedVariables false
set_option linter.unusedSimpArgs false
namespace Go.V
open Go Go.RowKit
section
variable {P : Program} {G : Glob}
/-- An empty slice is looked at as an own row that lies nowhere. -/
theorem acalls_nil_own {f : FuncId} {args : List AV} {H : List Blk} {k : Nat} (h : ACalls P G f args H (.sl k [] (some 0)) H) (s : Nat) (t : TypeId) : ACalls P G f args H (.own H.length 0 0 none) (H ++ [.row s t []]) := fun S vals hok hG ha => by
  refine (h S vals hok hG ha).mono fun e w' ⟨v, S', he, hw, hok', hext, hr⟩ => ?_
  refine ⟨v, S'.nil H.length, he, hw, nil_ok hok' s t, hext.trans (nil_ext hok' s t), ?_⟩
  simp only [Rel] at hr
  obtain ⟨a, cap, hv, h1, h2, h3, h4⟩ := hr
  have := h3 0 rfl
  subst this
  refine rel_own_mk (s := s) (by rw [shOf_push_new]; rfl) (Nat.le_refl _) (.inl ⟨by simp [St.nil, upd_same], ⟨a, hv⟩, rfl, .inl rfl⟩)
end
end Go.V
/- The library V, part 27: a call that only reads may be lent own rows. -/
set_option linter.unusedVariables false
set_option linter.unusedSimpArgs false
namespace Go.V
open Go Go.RowKit

mutual
/-- The value names no memory. -/
def AV.flat : AV → Bool
  | .int _ _ | .bool _ | .str _ | .anyb | .anyi _ | .err | .lit _ | .sl _ [] _ => true
  | .agg cs => flatL cs
  | .tup cs => flatL cs
  | _ => false
def flatL : List AV → Bool
  | [] => true
  | a :: as => a.flat && flatL as
end
mutual
theorem rel_flat {E E' : Env} : ∀ (a : AV) (v : Value), a.flat = true → Rel E a v → Rel E' a v
  | .int k n, v, _, hr => by simpa [Rel] using hr
  | .bool b, v, _, hr => by simpa [Rel] using hr
  | .str s, v, _, hr => by simpa [Rel] using hr
  | .anyb, v, _, hr => by simpa [Rel] using hr
  | .anyi k, v, _, hr => by simpa [Rel] using hr
  | .err, v, _, hr => by simpa [Rel] using hr
  | .lit u, v, _, hr => by simpa [Rel] using hr
  | .sl s [] c, v, _, hr => by simpa [Rel] using hr
  | .sl s (_ :: _) c, v, h, hr => by simp [AV.flat] at h
  | .agg cs, v, h, hr => by
    simp only [Rel, AV.flat] at hr h ⊢
    obtain ⟨vs, hv, hl, h1⟩ := hr
    exact ⟨vs, hv, relL_flat cs vs h hl, h1⟩
  | .tup cs, v, h, hr => by
    simp only [Rel, AV.flat] at hr h ⊢
    obtain ⟨vs, hv, hl⟩ := hr
    exact ⟨vs, hv, relL_flat cs vs h hl⟩
  | .own .., v, h, hr => by simp [AV.flat] at h
  | .ptr .., v, h, hr => by simp [AV.flat] at h
  | .iptr .., v, h, hr => by simp [AV.flat] at h
  | .fn .., v, h, hr => by simp [AV.flat] at h
  | .mp .., v, h, hr => by simp [AV.flat] at h
  | .yld .., v, h, hr => by simp [AV.flat] at h
  | .opt .., v, h, hr => by simp [AV.flat] at h
  | .top, v, h, hr => by simp [AV.flat] at h
theorem relL_flat {E E' : Env} : ∀ (as : List AV) (vs : List Value), flatL as = true → RelL E as vs → RelL E' as vs
  | [], vs, _, hr => by simpa [RelL] using hr
  | a :: as, vs, h, hr => by
    simp only [RelL, flatL, Bool.and_eq_true] at hr h ⊢
    obtain ⟨u, us, hv, h1, h2⟩ := hr
    exact ⟨u, us, hv, rel_flat a u h.1 h1, relL_flat as us h.2 h2⟩
end
section
variable {P : Program} {G : Glob}
theorem ac_eqv {f : FuncId} {args args' : List AV} {r : AV} {H H' : List Blk} (h : ACalls P G f args' H r H') (he : eqvL args args') : ACalls P G f args H r H' := fun S vals hok hG ha => h S vals hok hG (rel_eqvL he ha)
theorem owns_none {S : St} {H : List Blk} (hok : S.Ok H) {k : Nat} (h : S.Owns H k) : S.M k = none := by
  obtain ⟨b, hb⟩ := h
  unfold St.at at hb
  split at hb
  · rename_i s t es hbb
    rcases hok.row b s t es hbb with ⟨q, _⟩ | ⟨g, k', cs, h1, h2, _⟩
    · rw [q] at hb; cases hb
    · rw [h1] at hb; injection hb with hb; rw [← hb]; exact h2
  · rename_i ob0 hbb
    obtain ⟨g, ob1, h1, h2, _⟩ := hok.ob b ob0 hbb
    rw [h1] at hb; injection hb with hb; rw [← hb]; exact h2
  · cases hb
open Classical in
/-- A call with a flat result that only reads: the caller's own rows are lent to it. -/
theorem ac_lend {f : FuncId} {args args' : List AV} {r : AV} {H : List Blk} (d : Nat) (hk : args.all (okA H d) = true) (he : args.map (closeA H d) = args') (h : PC P G f args' r) (hr : r.flat = true) : ACalls P G f args H r H := fun S vals hok hG ha => by
  subst he
  have hok0 := freeze_ok hok
  have hM0 : ∀ k o, S.M k = some o → (S.freeze H).M k = some o := fun k o hk => freeze_M hok hk
  have ha0 : RelL ((S.freeze H).env []) (args.map (closeA H d)) vals := closeL_ok hok _ _ (closeA_ok hok d) hk ha
  refine (h (S.freeze H) vals hok0 (hG.mono hM0) ha0).mono fun e w' ⟨v, S1, he, hw, hok1, hext, hrel⟩ => ?_
  have hno : ∀ (T : St) k, ¬ T.Owns [] k := fun T k ⟨b, hb⟩ => by simp [St.at] at hb
  let S' : St := ⟨fun k => if S.Owns H k then none else S1.M k, S.μ, S.ν, S1.w⟩
  have hM' : ∀ k, ¬ S.Owns H k → S'.M k = S1.M k := fun k hk => if_neg hk
  have hMo : ∀ k, S.Owns H k → S'.M k = none := fun k hk => if_pos hk
  have hM : ∀ k o, S.M k = some o → S'.M k = some o := fun k o hk => by
    have hn : ¬ S.Owns H k := fun q => by rw [owns_none hok q] at hk; cases hk
    rw [hM' k hn]; exact hext.M k o (hM0 k o hk)
  have hsame : ∀ g o, S.Owns H g → S.w.heap[g]? = some o → S1.w.heap[g]? = some o := fun g o hg ho => by
    refine hok1.imm g o (hext.M g o ?_)
    rw [freeze_own hg]; exact ho
  have hle : (S.env H).le (S'.env H) := ⟨hM, fun b s cur hs => ⟨cur, Nat.le_refl _, hs, fun _ => rfl⟩, fun b g hs => hs⟩
  refine ⟨v, S', he, hw, ⟨fun k o hk => ?_, fun b s t es hbb => ?_, fun b ob0 hbb => ?_, hok.inj⟩, ⟨hext.os, hext.tape, hext.output, hext.size, fun k hk hn => hext.keep k hk (hno _ _), hM, fun k hk => ?_, fun k hk => .inl hk, fun b s cur _ hs => ⟨cur, Nat.le_refl _, hs, fun _ => rfl⟩, fun b g _ hs => hs, id⟩, rel_flat r v hr hrel⟩
  · by_cases q : S.Owns H k
    · rw [hMo k q] at hk; cases hk
    · rw [hM' k q] at hk; exact hok1.imm k o hk
  · rcases hok.row b s t es hbb with q | ⟨g, k, cs, h1, h2, h3, h4, h5, h6, h7⟩
    · exact .inl q
    · have hg : S.Owns H g := ⟨b, by simp [St.at, hbb, h1]⟩
      exact .inr ⟨g, k, cs, h1, hMo g hg, hsame g _ hg h3, h4, h5, h6, h7.mono hle⟩
  · obtain ⟨g, ob1, h1, h2, h3, h4⟩ := hok.ob b ob0 hbb
    have hg : S.Owns H g := ⟨b, by simp [St.at, hbb, h1]⟩
    exact ⟨g, ob1, h1, hMo g hg, hsame g _ hg h3, h4.mono hle⟩
  · by_cases q : S.Owns H k
    · exact absurd (hMo k q) hk
    · rw [hM' k q] at hk
      rcases hext.dom k hk with q1 | q1 | q1
      · left
        intro h0
        apply q1
        simp only [St.freeze]; rw [if_neg q]; exact h0
      · exact absurd q1 (hno _ _)
      · exact .inr (.inr q1)
end
end Go.V
set_option linter.unusedVariables false
set_option linter.unusedSimpArgs false
namespace Go.V
open Go Go.RowKit
/-- A goal at which a walk stops. -/
inductive Halt (p : Prop) : Prop where
  | mk (h : p)
  | mk' (h : p)
/-- What a slot holds when all own blocks have become immutable. -/
def closeT (H : List Blk) (d : Nat) (a : AV) : AV := if okA H d a = true then closeA H d a else .top
theorem closeT_ok {S : St} {H : List Blk} (hok : S.Ok H) (d : Nat) {a : AV} {v : Value} (h : Rel (S.env H) a v) : Rel ((S.freeze H).env []) (closeT H d a) v := by
  unfold closeT
  split
  · rename_i h1; exact closeA_ok hok d _ _ h1 h
  · simp [Rel]
theorem weak_close {n : Nat} {s : Nat → AV} {H : List Blk} (d : Nat) : Weak 0 (Lst n s) H (Lst n fun k => closeT H d (s k)) [] := fun S vs hok hn ha => by
  refine ⟨S.freeze H, rfl, freeze_ok hok, freeze_ext hok, ?_⟩
  refine RelL.mk (by rw [← ha.length]; simp [length_Lst]) fun i a v hi hv => ?_
  have hi' : i < n := by
    have := (List.getElem?_eq_some_iff.1 hi).1
    simpa [length_Lst] using this
  have e : (Lst n s)[i]? = some (s i) := by simp [Lst, hi']
  have e2 : (Lst n fun k => closeT H d (s k))[i]? = some (closeT H d (s i)) := by simp [Lst, hi']
  rw [e2] at hi
  injection hi with hi; subst hi
  obtain ⟨u, hu, hr⟩ := ha.get e
  rw [hu] at hv
  injection hv with hv; subst hv
  exact closeT_ok hok d hr
section
variable {ρ : Bool} {P : Program} {G : Glob} {n0 n : Nat} {p : List Nat} {Q : Exit → (Nat → AV) → List Blk → Prop} {B : Prop} {s : Nat → AV} {H : List Blk}
theorem stop_at {body : Code} (h : Halt (V.Go ρ P G n0 n body p Q B s H)) : V.Go ρ P G n0 n body p Q B s H := by cases h <;> assumption
theorem go_close {body : Code} (d : Nat) (hB : B) (h : ∀ s1 : Nat → AV, (∀ k, s1 k = closeT H d (s k)) → V.Go ρ P G 0 n body p Q True s1 []) : V.Go ρ P G 0 n body p Q B s H :=
  go_weak hB (weak_close d) (h _ fun k => rfl)
end
end Go.V
