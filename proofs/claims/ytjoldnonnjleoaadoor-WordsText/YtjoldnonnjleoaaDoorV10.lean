/- The library V, part 10: states whose own blocks turn. -/
import Derived.Test.YtjoldnonnjleoaaDoorV9
import Derived.Deep.Draws
set_option linter.unusedVariables false
set_option linter.unusedSimpArgs false
namespace Go.V
open Go Go.RowKit

def upd {α : Type} (f : Nat → α) (b : Nat) (v : α) : Nat → α := fun x => if x = b then v else f x
theorem upd_same {α : Type} (f : Nat → α) (b : Nat) (v : α) : upd f b v b = v := by simp [upd]
theorem upd_ne {α : Type} (f : Nat → α) {b x : Nat} (v : α) (h : x ≠ b) : upd f b v x = f x := by simp [upd, h]

section
variable {P : Program} {S : St} {H : List Blk}

theorem shOf_set_same {b s : Nat} {t : TypeId} {es : List (List AV)} (h : b < H.length) : shOf (H.set b (.row s t es)) b = some (s, es.length) := by
  simp [shOf, h]
theorem shOf_set_ne {b x : Nat} {B : Blk} (h : x ≠ b) : shOf (H.set b B) x = shOf H x := by
  simp only [shOf, List.getElem?_set_ne (Ne.symm h)]
theorem mpOf_set_ne {ν : Nat → Option Nat} {b x : Nat} {B : Blk} (h : x ≠ b) : mpOf ν (H.set b B) x = mpOf ν H x := by
  simp only [mpOf, List.getElem?_set_ne (Ne.symm h)]
theorem shOf_push_lt {b : Nat} {B : Blk} (h : b < H.length) : shOf (H ++ [B]) b = shOf H b := by
  simp only [shOf, List.getElem?_append_left h]
theorem shOf_push_new {s : Nat} {t : TypeId} {es : List (List AV)} : shOf (H ++ [.row s t es]) H.length = some (s, es.length) := by
  simp [shOf]
theorem mpOf_push_lt {ν : Nat → Option Nat} {b : Nat} {B : Blk} (h : b < H.length) : mpOf ν (H ++ [B]) b = mpOf ν H b := by
  simp only [mpOf, List.getElem?_append_left h]

/-- The state behind a store into own block b. -/
def St.put (S : St) (g : Nat) (cs : Array Value) : St := { S with w := S.w.setRow g cs }

theorem put_at (g : Nat) (cs : Array Value) {b s : Nat} {t t' : TypeId} {s' : Nat} {es es' : List (List AV)} (hb : H[b]? = some (.row s t es)) (x : Nat) : (S.put g cs).at (H.set b (.row s' t' es')) x = S.at H x := by
  by_cases hx : x = b
  · subst hx
    have hlt := (List.getElem?_eq_some_iff.1 hb).1
    simp only [St.at, St.put, List.getElem?_set_self hlt, hb]
  · simp only [St.at, St.put, List.getElem?_set_ne (Ne.symm hx)]

theorem frozen_setRow (w : World) (g : Nat) (cs : Array Value) (a : Addr) : (w.setRow g cs).frozen? a = w.frozen? a := by
  unfold World.frozen? World.setRow
  simp only [Array.getElem?_modify]
  by_cases h : g = a.block
  · rw [if_pos h]
    cases hx : w.heap[a.block]? with
    | none => rfl
    | some o => cases o <;> rfl
  · rw [if_neg h]
theorem put_ext (hok : S.Ok H) {b s g k : Nat} {t : TypeId} {es es' : List (List AV)} {cs : Array Value} (cs' : Array Value) (hb : H[b]? = some (.row s t es)) (hg : S.μ b = some (g, k)) (hl : es.length ≤ es'.length) :
    Ext H.length S H (S.put g cs') (H.set b (.row s t es')) where
  os := rfl
  tape := rfl
  output := rfl
  size := by simp [St.put, World.setRow]
  keep i hi hno := by
    refine setRow_other S.w g i cs' fun e => hno ⟨b, ?_⟩
    subst e
    simp [St.at, hb, hg]
  M i o h := h
  dom i h := .inl h
  own i h := by
    obtain ⟨x, hx⟩ := h
    rw [put_at g cs' hb] at hx
    exact .inl ⟨x, hx⟩
  sh x s' cur hx hs := by
    by_cases e : x = b
    · subst e
      rw [shOf_of hb] at hs
      injection hs with hs; injection hs with h1 h2; subst h1
      exact ⟨es'.length, by omega, shOf_set_same hx, fun _ => rfl⟩
    · exact ⟨cur, Nat.le_refl _, by rw [shOf_set_ne e]; exact hs, fun _ => rfl⟩
  ν x g' hx hs := by
    by_cases e : x = b
    · subst e; simp [mpOf, hb] at hs
    · rw [mpOf_set_ne e]; exact hs
  len h := by simp

theorem put_ok (hok : S.Ok H) {b s g k : Nat} {t : TypeId} {es es' : List (List AV)} {cs' : Array Value} (hb : H[b]? = some (.row s t es)) (hg : S.μ b = some (g, k)) (hl : es.length ≤ es'.length) (hk : es'.length ≤ k)
    (hsz : cs'.size = k * s) (hrow : RowIn (S.env H) s es' cs') : (S.put g cs').Ok (H.set b (.row s t es')) := by
  have hext := put_ext hok cs' hb hg hl (cs := cs')
  have hle := hext.le (Nat.le_refl _)
  have hne : ∀ x, x ≠ b → ∀ g', S.at H x = some g' → g' ≠ g := fun x hx g' hx' e => hx (hok.inj x b g (by rw [← e]; exact hx') (by simp [St.at, hb, hg]))
  obtain ⟨g0, k0, cs, q1, q2, q3, q4, q5, q6, q7⟩ := (hok.row b s t es hb).resolve_left (fun h => by rw [h.1] at hg; cases hg)
  rw [hg] at q1; injection q1 with q1; injection q1 with e1 e2; subst e1; subst e2
  have hMg : ∀ i o, S.M i = some o → i ≠ g := fun i o hi e => by rw [e, q2] at hi; cases hi
  refine ⟨fun i o hi => ?_, fun x s' t' es2 hx => ?_, fun x kt vt es2 hx => ?_, fun x y g' hx hy => ?_⟩
  · show (S.w.setRow g cs').heap[i]? = some o
    rw [setRow_other S.w g i cs' (hMg i o hi)]
    exact hok.imm i o hi
  · by_cases e : x = b
    · subst e
      have hlt := (List.getElem?_eq_some_iff.1 hb).1
      rw [List.getElem?_set_self hlt] at hx
      injection hx with hx; injection hx with h1 h2 h3; subst h1; subst h2; subst h3
      exact .inr ⟨g, k, cs', hg, q2, setRow_heap S.w g cs cs' t (0, 0) q3, hsz, hk, q6, hrow.mono hle⟩
    · rw [List.getElem?_set_ne (Ne.symm e)] at hx
      rcases hok.row x s' t' es2 hx with h | ⟨g', k', cs2, h1, h2, h3, h4, h5, h6, h7⟩
      · exact .inl h
      · refine .inr ⟨g', k', cs2, h1, h2, ?_, h4, h5, h6, h7.mono hle⟩
        show (S.w.setRow g cs').heap[g']? = _
        rw [setRow_other S.w g g' cs' (hne x e g' (by simp [St.at, hx, h1]))]
        exact h3
  · have e : x ≠ b := by
      rintro rfl
      have hlt := (List.getElem?_eq_some_iff.1 hb).1
      rw [List.getElem?_set_self hlt] at hx
      cases hx
    rw [List.getElem?_set_ne (Ne.symm e)] at hx
    obtain ⟨g', ents, clock, h1, h2, h3, h4⟩ := hok.map x kt vt es2 hx
    refine ⟨g', ents, clock, h1, h2, ?_, h4.mono hle⟩
    show (S.w.setRow g cs').heap[g']? = _
    rw [setRow_other S.w g g' cs' (hne x e g' (by simp [St.at, hx, h1]))]
    exact h3
  · rw [put_at g cs' hb] at hx hy
    exact hok.inj x y g' hx hy

/-- The state in which own block b lies in a new block: n draws made, room for k elements. -/
def St.fresh (S : St) (b k : Nat) (t : TypeId) (cs : Array Value) (n : Nat) : St := { S with μ := upd S.μ b (some (S.w.heap.size, k)), w := (S.w.drewN n).alloc (.cells cs t) }

/-- Own block b is turned into a longer row that lies elsewhere. -/
theorem move_ext (hok : S.Ok H) {b s : Nat} {t : TypeId} {es es' : List (List AV)} (k : Nat) (cs : Array Value) (n : Nat) (hb : H[b]? = some (.row s t es)) (hl : es.length < es'.length) :
    Ext H.length S H (S.fresh b k t cs n) (H.set b (.row s t es')) where
  os := rfl
  tape := rfl
  output := rfl
  size := by simp [St.fresh]
  keep i hi hno := Below.heap_alloc (S.w.drewN n) (.cells cs t) i hi
  M i o h := h
  dom i h := .inl h
  own i h := by
    obtain ⟨x, hx⟩ := h
    by_cases e : x = b
    · subst e
      have hlt := (List.getElem?_eq_some_iff.1 hb).1
      simp [St.at, St.fresh, upd_same, hlt] at hx
      exact .inr (by omega)
    · left
      refine ⟨x, ?_⟩
      simpa only [St.at, St.fresh, List.getElem?_set_ne (Ne.symm e), upd_ne _ _ e] using hx
  sh x s' cur hx hs := by
    by_cases e : x = b
    · subst e
      rw [shOf_of hb] at hs
      injection hs with hs; injection hs with h1 h2; subst h1
      exact ⟨es'.length, by omega, shOf_set_same hx, fun q => by omega⟩
    · exact ⟨cur, Nat.le_refl _, by rw [shOf_set_ne e]; exact hs, fun _ => upd_ne _ _ e⟩
  ν x g' hx hs := by
    by_cases e : x = b
    · subst e; simp [mpOf, hb] at hs
    · rw [mpOf_set_ne e]; exact hs
  len h := by simp

theorem fresh_heap_old (b k : Nat) (t : TypeId) (cs : Array Value) (n : Nat) {i : Nat} {o : Obj} (h : S.w.heap[i]? = some o) : (S.fresh b k t cs n).w.heap[i]? = some o := by
  have hlt := (Array.getElem?_eq_some_iff.1 h).1
  show ((S.w.drewN n).alloc (.cells cs t)).heap[i]? = _
  rw [Below.heap_alloc (S.w.drewN n) (.cells cs t) i hlt]
  exact h
theorem fresh_heap_new (b k : Nat) (t : TypeId) (cs : Array Value) (n : Nat) : (S.fresh b k t cs n).w.heap[S.w.heap.size]? = some (.cells cs t (0, 0)) := heap_alloc_new (S.w.drewN n) _

theorem move_ok (hok : S.Ok H) {b s : Nat} {t : TypeId} {es es' : List (List AV)} {k : Nat} {cs : Array Value} (n : Nat) (hb : H[b]? = some (.row s t es)) (hl : es.length < es'.length) (hk : es'.length ≤ k) (hm : k ≤ maxLen)
    (hsz : cs.size = k * s) (hrow : RowIn (S.env H) s es' cs) : (S.fresh b k t cs n).Ok (H.set b (.row s t es')) := by
  have hle := (move_ext hok k cs n hb hl).le (Nat.le_refl _)
  have hnew : S.M S.w.heap.size = none := by
    cases ho : S.M S.w.heap.size with
    | none => rfl
    | some o => have := M_lt hok (k := S.w.heap.size) (by rw [ho]; simp); omega
  have hat : ∀ x, x ≠ b → (S.fresh b k t cs n).at (H.set b (.row s t es')) x = S.at H x := fun x e => by
    simp only [St.at, St.fresh, List.getElem?_set_ne (Ne.symm e), upd_ne _ _ e]
  have hatb : (S.fresh b k t cs n).at (H.set b (.row s t es')) b = some S.w.heap.size := by
    have hlt := (List.getElem?_eq_some_iff.1 hb).1
    simp [St.at, St.fresh, upd_same, hlt]
  refine ⟨fun i o hi => fresh_heap_old b k t cs n (hok.imm i o hi), fun x s' t' es2 hx => ?_, fun x kt vt es2 hx => ?_, fun x y g' hx hy => ?_⟩
  · by_cases e : x = b
    · subst e
      have hlt := (List.getElem?_eq_some_iff.1 hb).1
      rw [List.getElem?_set_self hlt] at hx
      injection hx with hx; injection hx with h1 h2 h3; subst h1; subst h2; subst h3
      exact .inr ⟨S.w.heap.size, k, cs, upd_same _ _ _, hnew, fresh_heap_new x k t cs n, hsz, hk, hm, hrow.mono hle⟩
    · rw [List.getElem?_set_ne (Ne.symm e)] at hx
      rcases hok.row x s' t' es2 hx with h | ⟨g', k', cs2, h1, h2, h3, h4, h5, h6, h7⟩
      · exact .inl ⟨(upd_ne _ _ e).trans h.1, h.2⟩
      · exact .inr ⟨g', k', cs2, (upd_ne _ _ e).trans h1, h2, fresh_heap_old b k t cs n h3, h4, h5, h6, h7.mono hle⟩
  · have e : x ≠ b := by
      rintro rfl
      have hlt := (List.getElem?_eq_some_iff.1 hb).1
      rw [List.getElem?_set_self hlt] at hx
      cases hx
    rw [List.getElem?_set_ne (Ne.symm e)] at hx
    obtain ⟨g', ents, clock, h1, h2, h3, h4⟩ := hok.map x kt vt es2 hx
    exact ⟨g', ents, clock, h1, h2, fresh_heap_old b k t cs n h3, h4.mono hle⟩
  · by_cases ex : x = b
    · by_cases ey : y = b
      · rw [ex, ey]
      · rw [ex, hatb] at hx; rw [hat y ey] at hy
        injection hx with hx
        have := own_lt hok hy
        omega
    · by_cases ey : y = b
      · rw [ey, hatb] at hy; rw [hat x ex] at hx
        injection hy with hy
        have := own_lt hok hx
        omega
      · rw [hat x ex] at hx; rw [hat y ey] at hy
        exact hok.inj x y g' hx hy

/-- A new own block. -/
theorem new_ext (hok : S.Ok H) {s : Nat} {t : TypeId} {es : List (List AV)} (k : Nat) (cs : Array Value) (n : Nat) : Ext H.length S H (S.fresh H.length k t cs n) (H ++ [.row s t es]) where
  os := rfl
  tape := rfl
  output := rfl
  size := by simp [St.fresh]
  keep i hi hno := Below.heap_alloc (S.w.drewN n) (.cells cs t) i hi
  M i o h := h
  dom i h := .inl h
  own i h := by
    obtain ⟨x, hx⟩ := h
    by_cases e : x < H.length
    · left
      refine ⟨x, ?_⟩
      simpa only [St.at, St.fresh, List.getElem?_append_left e, upd_ne _ _ (show x ≠ H.length by omega)] using hx
    · right
      by_cases e2 : x = H.length
      · subst e2
        simp [St.at, St.fresh, upd_same] at hx
        omega
      · have : (H ++ [Blk.row s t es])[x]? = none := List.getElem?_eq_none (by simp; omega)
        simp [St.at, this] at hx
  sh x s' cur hx hs := ⟨cur, Nat.le_refl _, by rw [shOf_push_lt hx]; exact hs, fun _ => upd_ne _ _ (show x ≠ H.length by omega)⟩
  ν x g' hx hs := by rw [mpOf_push_lt hx]; exact hs
  len h := by simp

theorem new_ok (hok : S.Ok H) {s : Nat} {t : TypeId} {es : List (List AV)} {k : Nat} {cs : Array Value} (n : Nat) (hk : es.length ≤ k) (hm : k ≤ maxLen)
    (hsz : cs.size = k * s) (hrow : RowIn (S.env H) s es cs) : (S.fresh H.length k t cs n).Ok (H ++ [.row s t es]) := by
  have hle := (new_ext hok (s := s) (t := t) (es := es) k cs n).le (Nat.le_refl _)
  have hnew : S.M S.w.heap.size = none := by
    cases ho : S.M S.w.heap.size with
    | none => rfl
    | some o => have := M_lt hok (k := S.w.heap.size) (by rw [ho]; simp); omega
  have hat : ∀ x, x < H.length → (S.fresh H.length k t cs n).at (H ++ [.row s t es]) x = S.at H x := fun x e => by
    simp only [St.at, St.fresh, List.getElem?_append_left e, upd_ne _ _ (show x ≠ H.length by omega)]
  have hatb : (S.fresh H.length k t cs n).at (H ++ [.row s t es]) H.length = some S.w.heap.size := by
    simp [St.at, St.fresh, upd_same]
  have hge : ∀ x g', (S.fresh H.length k t cs n).at (H ++ [.row s t es]) x = some g' → x < H.length ∨ x = H.length := fun x g' hx => by
    by_cases e : x ≤ H.length
    · omega
    · have : (H ++ [Blk.row s t es])[x]? = none := List.getElem?_eq_none (by simp; omega)
      simp [St.at, this] at hx
  refine ⟨fun i o hi => fresh_heap_old H.length k t cs n (hok.imm i o hi), fun x s' t' es2 hx => ?_, fun x kt vt es2 hx => ?_, fun x y g' hx hy => ?_⟩
  · by_cases e : x < H.length
    · rw [List.getElem?_append_left e] at hx
      rcases hok.row x s' t' es2 hx with h | ⟨g', k', cs2, h1, h2, h3, h4, h5, h6, h7⟩
      · exact .inl ⟨(upd_ne _ _ (show x ≠ H.length by omega)).trans h.1, h.2⟩
      · exact .inr ⟨g', k', cs2, (upd_ne _ _ (show x ≠ H.length by omega)).trans h1, h2, fresh_heap_old H.length k t cs n h3, h4, h5, h6, h7.mono hle⟩
    · have e2 : x = H.length := by
        have := (List.getElem?_eq_some_iff.1 hx).1
        simp at this
        omega
      subst e2
      simp at hx
      obtain ⟨h1, h2, h3⟩ := hx
      subst h1; subst h2; subst h3
      exact .inr ⟨S.w.heap.size, k, cs, upd_same _ _ _, hnew, fresh_heap_new _ k t cs n, hsz, hk, hm, hrow.mono hle⟩
  · by_cases e : x < H.length
    · rw [List.getElem?_append_left e] at hx
      obtain ⟨g', ents, clock, h1, h2, h3, h4⟩ := hok.map x kt vt es2 hx
      exact ⟨g', ents, clock, h1, h2, fresh_heap_old H.length k t cs n h3, h4.mono hle⟩
    · have e2 : x = H.length := by
        have := (List.getElem?_eq_some_iff.1 hx).1
        simp at this
        omega
      subst e2
      simp at hx
  · rcases hge x g' hx with ex | ex
    · rcases hge y g' hy with ey | ey
      · rw [hat x ex] at hx; rw [hat y ey] at hy
        exact hok.inj x y g' hx hy
      · rw [ey, hatb] at hy; rw [hat x ex] at hx
        injection hy with hy
        have := own_lt hok hx
        omega
    · rcases hge y g' hy with ey | ey
      · rw [ex, hatb] at hx; rw [hat y ey] at hy
        injection hx with hx
        have := own_lt hok hy
        omega
      · rw [ex, ey]
end
end Go.V
