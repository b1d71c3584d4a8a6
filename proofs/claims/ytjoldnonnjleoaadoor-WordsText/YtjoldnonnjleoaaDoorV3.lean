/- The library V, part 3: operations that leave the own blocks as they are. -/
import Derived.Test.YtjoldnonnjleoaaDoorV2
import Derived.Laws.StructEq
namespace Go.V
open Go Go.RowKit

def AV.strip : AV → AV
  | .opt _ v => v
  | v => v
def AV.ok : AV → Bool
  | .opt g _ => g
  | _ => true
def isLen (H : List Blk) (b h : Nat) : Bool :=
  match shOf H b with
  | some (_, cur) => h == cur
  | none => false
def AV.live (H : List Blk) : AV → Bool
  | .own b _ h _ => isLen H b h
  | .ptr b _ _ h => isLen H b h
  | _ => true
def AV.cells? (H : List Blk) : AV → Option (List AV)
  | .agg cs => some cs
  | .top | .opt _ _ | .tup _ => none
  | .lit (.agg _) | .lit (.tuple _) => none
  | v => if v.live H = true then some [v] else none
def AV.ite (b : Bool) (x y : AV) : AV :=
  match x, y with
  | .bool p, .bool q => .bool (bif b then p else q)
  | _, _ => if b = true then x else y

theorem Rel.strip {E : Env} {x : AV} {v : Value} (h : Rel E x v) (hk : x.ok = true) : Rel E x.strip v := by
  cases x with
  | opt g w => simp only [Rel] at h; exact h.1 hk
  | _ => exact h
theorem Rel.ite {E : Env} {x y : AV} {u v : Value} {b : Bool} (hx : b = true → Rel E x u) (hy : b = false → Rel E y v) : Rel E (AV.ite b x y) (if b = true then u else v) := by
  unfold AV.ite
  split
  · cases b
    · have := hy rfl; simpa [Rel] using this
    · have := hx rfl; simpa [Rel] using this
  · cases b
    · simpa using hy rfl
    · simpa using hx rfl

theorem isLen_some {H : List Blk} {b h : Nat} (hl : isLen H b h = true) : ∃ s, shOf H b = some (s, h) := by
  unfold isLen at hl
  split at hl
  · rename_i s cur hs
    have : h = cur := by simpa using hl
    subst this
    exact ⟨s, hs⟩
  · cases hl
theorem rel_own {S : St} {H : List Blk} {b n h : Nat} {c : Option Nat} {v : Value} (hr : Rel (S.env H) (.own b n h c) v) (hl : isLen H b h = true) :
    ∃ s, shOf H b = some (s, h) ∧ n ≤ h ∧ ((S.μ b = none ∧ (∃ a, v = .slice a 0 0) ∧ n = 0 ∧ (c = none ∨ c = some 0)) ∨
       ∃ g k cap, S.μ b = some (g, k) ∧ v = .slice (some ⟨g, 0, none⟩) n cap ∧ n ≤ cap ∧ cap ≤ k ∧ (c = none → cap = k) ∧ (∀ j, c = some j → cap = j)) := by
  obtain ⟨s, hs⟩ := isLen_some hl
  simp only [Rel] at hr
  obtain ⟨s', cur, h1, h2, h3⟩ := hr
  have h1 : shOf H b = some (s', cur) := h1
  rw [hs] at h1; injection h1 with h1; injection h1 with e1 e2; subst e1; subst e2
  exact ⟨s, hs, h3 rfl⟩
theorem rel_ptr {S : St} {H : List Blk} {b i o h : Nat} {v : Value} (hr : Rel (S.env H) (.ptr b i o h) v) (hl : isLen H b h = true) :
    ∃ s g k, shOf H b = some (s, h) ∧ S.μ b = some (g, k) ∧ v = .pointer (some ⟨g, i * s + o, none⟩) := by
  obtain ⟨s, hs⟩ := isLen_some hl
  simp only [Rel] at hr
  obtain ⟨s', cur, h1, h2, h3⟩ := hr
  have h1 : shOf H b = some (s', cur) := h1
  rw [hs] at h1; injection h1 with h1; injection h1 with e1 e2; subst e1; subst e2
  obtain ⟨g, k, hg, hv⟩ := h3 rfl
  exact ⟨s, g, k, hs, hg, hv⟩
theorem rel_own_mk {S : St} {H : List Blk} {b n h s : Nat} {c : Option Nat} {v : Value} (hs : shOf H b = some (s, h)) (hn : n ≤ h)
    (hc : (S.μ b = none ∧ (∃ a, v = .slice a 0 0) ∧ n = 0 ∧ (c = none ∨ c = some 0)) ∨
       ∃ g k cap, S.μ b = some (g, k) ∧ v = .slice (some ⟨g, 0, none⟩) n cap ∧ n ≤ cap ∧ cap ≤ k ∧ (c = none → cap = k) ∧ (∀ j, c = some j → cap = j)) : Rel (S.env H) (.own b n h c) v := by
  simp only [Rel]
  exact ⟨s, h, hs, Nat.le_refl _, fun _ => ⟨hn, hc⟩⟩
theorem rel_ptr_mk {S : St} {H : List Blk} {b i o h s g k : Nat} {v : Value} (hs : shOf H b = some (s, h)) (hg : S.μ b = some (g, k)) (hv : v = .pointer (some ⟨g, i * s + o, none⟩)) : Rel (S.env H) (.ptr b i o h) v := by
  simp only [Rel]
  exact ⟨s, h, hs, Nat.le_refl _, fun _ => ⟨g, k, hg, hv⟩⟩
theorem shOf_row {H : List Blk} {b s n : Nat} (h : shOf H b = some (s, n)) : ∃ t es, H[b]? = some (.row s t es) ∧ es.length = n := by
  unfold shOf at h
  split at h
  · rename_i s' t es hb
    injection h with h; injection h with h1 h2; subst h1; exact ⟨t, es, hb, h2⟩
  · cases h
theorem shOf_of {H : List Blk} {b s : Nat} {t : TypeId} {es : List (List AV)} (h : H[b]? = some (.row s t es)) : shOf H b = some (s, es.length) := by simp [shOf, h]

theorem oneCell_of_rel {S : St} {H : List Blk} {x : AV} {v : Value} {cs : List AV} (h : Rel (S.env H) x v) (hc : x.cells? H = some cs) : RelL (S.env H) cs v.cells.toList ∧ ∀ u ∈ v.cells.toList, u.oneCell' = true := by
  have one : ∀ (w : Value), w.cells = #[w] → w.oneCell' = true → v = w → x.cells? H = some [x] → RelL (S.env H) cs v.cells.toList ∧ ∀ u ∈ v.cells.toList, u.oneCell' = true := by
    intro w h1 h2 hv hx
    subst hv
    rw [hx] at hc; injection hc with hc; subst hc
    rw [h1]
    refine ⟨?_, fun u hu => by simp at hu; subst hu; exact h2⟩
    simp only [RelL]
    exact ⟨v, [], rfl, h, rfl⟩
  cases x with
  | agg as =>
    simp only [AV.cells?] at hc
    injection hc with hc; subst hc
    simp only [Rel] at h
    obtain ⟨vs, rfl, hl, h1⟩ := h
    exact ⟨by simpa [Value.cells] using hl, by simpa [Value.cells] using h1⟩
  | anyb =>
    simp only [Rel] at h
    obtain ⟨b, rfl⟩ := h
    exact one _ rfl rfl rfl rfl
  | anyi k =>
    simp only [Rel] at h
    obtain ⟨n, rfl⟩ := h
    exact one _ rfl rfl rfl rfl
  | err =>
    simp only [Rel] at h
    obtain ⟨t, u, rfl⟩ := h
    exact one _ rfl rfl rfl rfl
  | top => simp [AV.cells?] at hc
  | opt g w => simp [AV.cells?] at hc
  | tup as => simp [AV.cells?] at hc
  | int k n => exact one _ rfl rfl (by simpa [Rel] using h) rfl
  | bool b => exact one _ rfl rfl (by simpa [Rel] using h) rfl
  | str s => exact one _ rfl rfl (by simpa [Rel] using h) rfl
  | sl s es c =>
    have hx := h
    simp only [Rel] at hx
    obtain ⟨a, cap, hv, _⟩ := hx
    exact one _ rfl rfl hv rfl
  | own b n hh c =>
    by_cases hl : isLen H b hh = true
    · have hx : (AV.own b n hh c).cells? H = some [AV.own b n hh c] := by simp [AV.cells?, AV.live, hl]
      obtain ⟨s, hs, _, h3⟩ := rel_own h hl
      rcases h3 with ⟨_, hv, _⟩ | ⟨g, k, cap, _, hv, _⟩
      · obtain ⟨a0, hv⟩ := hv; exact one _ rfl rfl hv hx
      · exact one _ rfl rfl hv hx
    · simp [AV.cells?, AV.live, hl] at hc
  | ptr b i o hh =>
    by_cases hl : isLen H b hh = true
    · have hx : (AV.ptr b i o hh).cells? H = some [AV.ptr b i o hh] := by simp [AV.cells?, AV.live, hl]
      obtain ⟨s, g, k, _, _, hv⟩ := rel_ptr h hl
      exact one _ rfl rfl hv hx
    · simp [AV.cells?, AV.live, hl] at hc
  | iptr cs o =>
    have hx := h
    simp only [Rel] at hx
    obtain ⟨g, off, hv, _⟩ := hx
    exact one _ rfl rfl hv rfl
  | fn f cap =>
    have hx := h
    simp only [Rel] at hx
    obtain ⟨vs, hv, _⟩ := hx
    exact one _ rfl rfl hv rfl
  | mp b =>
    have hx := h
    simp only [Rel] at hx
    obtain ⟨g, _, hv⟩ := hx
    exact one _ rfl rfl hv rfl
  | lit u =>
    have hv : v = u := by simpa [Rel] using h
    cases u with
    | agg _ => simp [AV.cells?] at hc
    | tuple _ => simp [AV.cells?] at hc
    | _ => exact one _ rfl rfl hv rfl
end Go.V
