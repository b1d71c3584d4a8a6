/- The library V, part 12: append; all operations that turn the own blocks. -/
import Derived.Test.YtjoldnonnjleoaaDoorV11
set_option linter.unusedVariables false
set_option linter.unusedSimpArgs false
namespace Go.V
open Go Go.RowKit

section
variable {P : Program} {S : St} {H : List Blk}

theorem relE_cells {E : Env} {s : Nat} : ∀ (es : List (List AV)) (g off : Nat), RelE E s es g off →
    ∃ C : List Value, C.length = es.length * s ∧ RowIn E s es C.toArray ∧ (∀ u ∈ C, u.oneCell' = true) ∧ ∀ (j : Nat) (u : Value), C[j]? = some u → mcell E.M g (off + j) = some u
  | [], g, off, _ => ⟨[], by simp, fun i e hi => by simp at hi, by simp, by simp⟩
  | e :: es, g, off, h => by
    have h0 := h.get (i := 0) rfl
    simp only [RelE] at h
    obtain ⟨h1, h2, h3⟩ := h
    obtain ⟨C, c1, c2, c3, c4⟩ := relE_cells es g (off + s) h3
    have hx : ∃ vs : List Value, RelL E e vs ∧ (∀ u ∈ vs, u.oneCell' = true) ∧ ∀ (j : Nat) (v : Value), vs[j]? = some v → mcell E.M g (off + j) = some v := by
      clear h0 h3 c1 c2 c3 c4
      have aux : ∀ (as : List AV) (off : Nat), RelC E as g off → ∃ vs : List Value, RelL E as vs ∧ (∀ u ∈ vs, u.oneCell' = true) ∧ ∀ (j : Nat) (v : Value), vs[j]? = some v → mcell E.M g (off + j) = some v := by
        intro as
        induction as with
        | nil => intro off _; exact ⟨[], by simp [RelL], by simp, by simp⟩
        | cons a as ih =>
          intro off hc
          simp only [RelC] at hc
          obtain ⟨⟨u, hu, ho, hr⟩, hc2⟩ := hc
          obtain ⟨vs, v1, v2, v3⟩ := ih (off + 1) hc2
          refine ⟨u :: vs, ?_, ?_, ?_⟩
          · simp only [RelL]; exact ⟨u, vs, rfl, hr, v1⟩
          · intro x hx
            rcases List.mem_cons.1 hx with rfl | hx
            · exact ho
            · exact v2 x hx
          · intro j v hj
            cases j with
            | zero => simp at hj; subst hj; simpa using hu
            | succ j =>
              have := v3 j v (by simpa using hj)
              rwa [show off + 1 + j = off + (j + 1) from by omega] at this
      exact aux e off h2
    obtain ⟨vs, v1, v2, v3⟩ := hx
    have hvl : vs.length = s := by rw [← v1.length, h1]
    refine ⟨vs ++ C, ?_, ?_, ?_, ?_⟩
    · simp [hvl, c1, Nat.add_mul]; omega
    · intro i el hi
      cases i with
      | zero =>
        simp at hi; subst hi
        refine ⟨h1, fun j a hj => ?_⟩
        have hjs : j < s := by rw [← h1]; exact (List.getElem?_eq_some_iff.1 hj).1
        obtain ⟨v, hv, hr⟩ := v1.get hj
        refine ⟨v, ?_, v2 v (List.mem_of_getElem? hv), hr⟩
        simp only [Nat.zero_mul, Nat.zero_add, List.getElem?_toArray]
        rw [List.getElem?_append_left (by omega)]
        exact hv
      | succ i =>
        obtain ⟨l1, l2⟩ := c2 i el (by simpa using hi)
        refine ⟨l1, fun j a hj => ?_⟩
        obtain ⟨v, hv, ho, hr⟩ := l2 j a hj
        refine ⟨v, ?_, ho, hr⟩
        simp only [List.getElem?_toArray] at hv ⊢
        rw [List.getElem?_append_right (by rw [hvl, Nat.add_mul]; omega), hvl, show (i + 1) * s + j - s = i * s + j from by rw [Nat.add_mul]; omega]
        exact hv
    · intro u hu
      rcases List.mem_append.1 hu with hu | hu
      · exact v2 u hu
      · exact c3 u hu
    · intro j u hj
      by_cases hjs : j < vs.length
      · rw [List.getElem?_append_left hjs] at hj
        exact v3 j u hj
      · rw [List.getElem?_append_right (by omega), hvl] at hj
        have := c4 (j - s) u hj
        rwa [show off + s + (j - s) = off + j from by omega] at this

/-- What an append's second argument gives. -/
theorem srcElems_ok (hok : S.Ok H) {sz : Nat} {x : AV} {v : Value} {es : List (List AV)} (hr : Rel (S.env H) x v) (h : srcElems H sz x = some es) :
    ∃ C : List Value, (∀ W : World, (Builtin.lenOf v).run P W = .ok es.length W) ∧ (∀ W : World, (∀ a, W.cell? a = S.w.cell? a) → (Builtin.firstCells sz es.length v).run P W = .ok C.toArray W) ∧
      C.length = es.length * sz ∧ (∀ u ∈ C, u.oneCell' = true) ∧ RowIn (S.env H) sz es C.toArray := by
  unfold srcElems at h
  split at h
  · rename_i s es' c
    split at h
    · rename_i hc
      injection h with h; subst h
      have hr' := hr
      simp only [Rel] at hr'
      obtain ⟨a, cap, rfl, h1, h2, h3, h4⟩ := hr'
      by_cases he : es' = []
      · subst he
        refine ⟨[], fun W => by simp [Builtin.lenOf], fun W _ => ?_, by simp, by simp, fun i e hi => by simp at hi⟩
        cases a <;> simp [Builtin.firstCells, loadCells, loadCellsFrom]
      · obtain ⟨g, off, rfl, hre⟩ := h4.resolve_left he
        have hs : s = sz := by
          have : es'.isEmpty = false := by simpa using he
          simpa [this] using hc
        subst hs
        obtain ⟨C, c1, c2, c3, c4⟩ := relE_cells es' g off hre
        refine ⟨C, fun W => by simp [Builtin.lenOf], fun W hW => ?_, c1, c3, c2⟩
        refine run_firstCells_some W s es'.length ⟨g, off, none⟩ _ _ C c1 fun j u hu => ?_
        rw [hW, add_none]
        exact imm_cell hok (c4 j u hu)
    · cases h
  · rename_i b n hh c
    split at h
    · rename_i s t es' hb
      split at h
      · rename_i hc
        injection h with h; subst h
        simp only [Bool.and_eq_true, decide_eq_true_eq, beq_iff_eq] at hc
        obtain ⟨hc1, hc2⟩ := hc
        subst hc2
        have hl : isLen H b hh = true := by simp [isLen, shOf_of hb, hc1]
        obtain ⟨s', hs, hn, hcase⟩ := rel_own hr hl
        have hlen : (es'.take n).length = n := by simp; omega
        rcases hcase with ⟨_, ⟨a0, rfl⟩, rfl, _⟩ | ⟨g, k, cap, hg, rfl, _, _, _, _⟩
        · refine ⟨[], fun W => by simp [Builtin.lenOf], fun W _ => ?_, by simp, by simp, fun i e hi => by simp at hi⟩
          cases a0 <;> simp [Builtin.firstCells, loadCells, loadCellsFrom]
        · obtain ⟨g0, k0, C, q1, q2, q3, q4, q5, q6, q7⟩ := (hok.row b s t es' hb).resolve_left (fun q => by rw [q.1] at hg; cases hg)
          rw [hg] at q1; injection q1 with q1; injection q1 with e1 e2; subst e1; subst e2
          have hnk : n * s ≤ C.size := by rw [q4]; exact Nat.mul_le_mul_right _ (by omega)
          refine ⟨C.toList.take (n * s), fun W => by simp [Builtin.lenOf, hlen], fun W hW => ?_, by rw [hlen]; simp; omega, ?_, ?_⟩
          · rw [hlen]
            refine run_firstCells_some W s n ⟨g, 0, none⟩ _ _ _ (by simp; omega) fun j u hu => ?_
            rw [hW, add_none]
            rw [List.getElem?_take] at hu
            split at hu
            · simp [World.cell?, q3]
              simpa using hu
            · cases hu
          · intro u hu
            obtain ⟨j, hj⟩ := List.mem_iff_getElem?.1 hu
            rw [List.getElem?_take] at hj
            split at hj
            · rename_i hjn
              have hs0 : 0 < s := by
                rcases Nat.eq_zero_or_pos s with h0 | h0
                · subst h0; simp at hjn
                · exact h0
              have hi : j / s < n := Nat.div_lt_of_lt_mul (by rwa [Nat.mul_comm] at hjn)
              have hi2 : j / s < es'.length := by omega
              obtain ⟨l1, l2⟩ := q7 (j / s) es'[j / s] (List.getElem?_eq_getElem hi2)
              have hm : j % s < es'[j / s].length := by rw [l1]; exact Nat.mod_lt _ hs0
              obtain ⟨w, hw, ho, _⟩ := l2 (j % s) _ (List.getElem?_eq_getElem hm)
              rw [show j / s * s + j % s = j from by rw [Nat.mul_comm]; exact Nat.div_add_mod j s] at hw
              have : u = w := by
                have h5 : C[j]? = some u := by simpa using hj
                rw [hw] at h5; injection h5 with h5; exact h5.symm
              rw [this]; exact ho
            · cases hj
          · intro i e hi
            rw [List.getElem?_take] at hi
            split at hi
            · rename_i hin
              obtain ⟨l1, l2⟩ := q7 i e hi
              refine ⟨l1, fun j a hj => ?_⟩
              obtain ⟨w, hw, ho, hrr⟩ := l2 j a hj
              refine ⟨w, ?_, ho, hrr⟩
              have hjs : j < s := by rw [← l1]; exact (List.getElem?_eq_some_iff.1 hj).1
              have : (i + 1) * s ≤ n * s := Nat.mul_le_mul_right _ hin
              rw [Nat.add_mul] at this
              simp only [List.getElem?_toArray, List.getElem?_take]
              rw [if_pos (by omega)]
              simpa using hw
            · cases hi
      · cases h
    · cases h
  · rename_i l
    split at h
    · rename_i hz
      injection h with h; subst h; subst hz
      have e1 := hr; simp only [Rel] at e1; subst e1
      refine ⟨l.map fun b => .int .u8 b.toNat, fun W => by simp [Builtin.lenOf]; rfl, fun W _ => ?_, by simp, by simp [Value.oneCell'], ?_⟩
      · simp only [Builtin.firstCells, List.length_map, Sem.run_pure]
        congr 1
        apply Array.ext'
        simp [ByteArray.data_extract]
      · intro i e hi
        rw [List.getElem?_map] at hi
        cases hli : l[i]? with
        | none => rw [hli] at hi; cases hi
        | some b =>
          rw [hli] at hi
          injection hi with hi; subst hi
          refine ⟨rfl, fun j a hj => ?_⟩
          cases j with
          | zero =>
            simp at hj; subst hj
            exact ⟨.int .u8 b.toNat, by simp [hli], rfl, by simp [Rel]⟩
          | succ j => simp at hj
    · cases h
  · cases h
end
end Go.V
