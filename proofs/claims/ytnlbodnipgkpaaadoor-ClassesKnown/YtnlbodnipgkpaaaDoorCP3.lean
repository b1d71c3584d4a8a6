import Derived.Test.YtnlbodnipgkpaaaDoorCP2
/- Classes: which lists are partitions: plain. -/
namespace Go.Proofs
def Valid (p : List Int) : Prop := namesI p = p
instance (p : List Int) : Decidable (Valid p) := inferInstanceAs (Decidable (_ = _))
/-- The program's way. -/
def chkG : Nat → List Int → Int
  | _, [] => 0
  | n, b :: p => if b < 0 ∨ (n : Int) < b then 1 else chkG (if b = n then n + 1 else n) p
def checkC (p : List Int) : Int := if 256 < p.length then 3 else chkG 0 p
theorem namesI_snoc {α : Type} [DecidableEq α] (l : List α) (x : α) : namesI (l ++ [x]) = namesI l ++ [((if x ∈ l then nameOf l x else (dd l).length : Nat) : Int)] := by
  rw [namesI, named_snoc, List.map_append, namesI]; rfl
theorem namesI_take {α : Type} [DecidableEq α] (l : List α) : ∀ r : List α, (namesI (l ++ r)).take l.length = namesI l := by
  refine snoc_ind ?_ fun r x ih => ?_
  · rw [List.append_nil, List.take_of_length_le (by rw [length_namesI]; exact Nat.le_refl _)]
  · rw [← List.append_assoc, namesI_snoc, List.take_append_of_le_length (by rw [length_namesI]; simp), ih]
theorem valid_pre {l r : List Int} (h : Valid (l ++ r)) : Valid l := by
  have := namesI_take l r
  rw [h, List.take_left'] at this
  · exact this.symm
  · rfl
theorem valid_mem {l : List Int} (h : Valid l) {b : Int} : b ∈ l ↔ 0 ≤ b ∧ b < (dd l).length := by
  constructor
  · intro hb
    rw [← (show namesI l = l from h)] at hb
    obtain ⟨n, hn, rfl⟩ := List.mem_map.1 hb
    obtain ⟨x, hx, rfl⟩ := List.mem_map.1 hn
    have := nameOf_lt hx
    omega
  · rintro ⟨h0, h1⟩
    obtain ⟨c, rfl⟩ : ∃ c : Nat, b = c := ⟨b.toNat, by omega⟩
    have hc : c < (dd l).length := by omega
    have hx : (dd l)[c] ∈ l := (mem_dd l _).1 (List.getElem_mem hc)
    have hn : nameOf l (dd l)[c] = c := by
      have hnd : ∀ (r acc : List Int), acc.Nodup → (ddG acc r).Nodup := fun r => by
        induction r with
        | nil => intro acc h; exact h
        | cons y r ih =>
          intro acc h
          rw [ddG]
          refine ih _ ?_
          by_cases q : y ∈ acc
          · rw [if_pos q]; exact h
          · rw [if_neg q, List.nodup_append]
            exact ⟨h, by simp, fun a ha b hb => by simp at hb; subst hb; rintro rfl; exact q ha⟩
      have := hnd l [] List.nodup_nil
      exact this.idxOf_getElem c hc
    have : ((nameOf l (dd l)[c] : Nat) : Int) ∈ namesI l := List.mem_map.2 ⟨_, List.mem_map.2 ⟨_, hx, rfl⟩, rfl⟩
    rw [hn, h] at this
    exact this
theorem valid_name {l : List Int} (h : Valid l) {b : Int} (hb : b ∈ l) : (nameOf l b : Int) = b := by
  obtain ⟨k, hk, e⟩ := List.getElem_of_mem hb
  have h1 : (namesI l)[k]? = some ((nameOf l b : Nat) : Int) := by
    rw [namesI, List.getElem?_map, named_at l k hk, e]; rfl
  rw [h, List.getElem?_eq_getElem hk, e] at h1
  injection h1 with h1; exact h1.symm
theorem valid_snoc {l : List Int} (h : Valid l) (b : Int) : Valid (l ++ [b]) ↔ 0 ≤ b ∧ b ≤ (dd l).length := by
  unfold Valid
  rw [namesI_snoc, h]
  have hm := valid_mem h (b := b)
  by_cases hb : b ∈ l
  · rw [if_pos hb, valid_name h hb]
    simp; have := hm.1 hb; omega
  · rw [if_neg hb]
    simp only [List.append_cancel_left_eq, List.cons.injEq, and_true]
    have : ¬ (0 ≤ b ∧ b < (dd l).length) := fun q => hb (hm.2 q)
    omega
theorem chkG_spec : ∀ (p l : List Int), Valid l → chkG (dd l).length p = if Valid (l ++ p) then 0 else 1
  | [], l, h => by rw [List.append_nil, if_pos h]; rfl
  | b :: p, l, h => by
    have hs := valid_snoc h b
    rw [chkG]
    by_cases hb : b < 0 ∨ ((dd l).length : Int) < b
    · rw [if_pos hb, if_neg]
      intro q
      have : l ++ b :: p = (l ++ [b]) ++ p := by simp
      rw [this] at q
      have := hs.1 (valid_pre q)
      omega
    · rw [if_neg hb]
      have hv := hs.2 (by omega)
      have := chkG_spec p (l ++ [b]) hv
      rw [List.append_assoc] at this
      rw [show l ++ b :: p = l ++ ([b] ++ p) from rfl, ← this]
      congr 1
      rw [dd_len_snoc]
      have hm := valid_mem h (b := b)
      by_cases e : b = (dd l).length
      · rw [if_pos e, if_neg (fun q => by have := hm.1 q; omega)]
      · rw [if_neg e, if_pos (hm.2 (by omega))]
theorem checkC_eq (p : List Int) : checkC p = if 256 < p.length then 3 else if Valid p then 0 else 1 := by
  rw [checkC]
  split
  · rfl
  · exact chkG_spec p [] rfl
/-- The document's way: the number of names ahead of the first place of an element. -/
theorem nameOf_first {α : Type} [DecidableEq α] {l : List α} {x : α} {L : Nat} (hL : L < l.length) (e : l[L]? = some x) (h : ∀ k, k < L → l[k]? ≠ some x) : nameOf l x = (dd (l.take L)).length := by
  have h1 : ¬ x ∈ l.take L := fun q => by
    obtain ⟨k, hk, ek⟩ := List.getElem_of_mem q
    rw [List.length_take] at hk
    refine h k (by omega) ?_
    rw [List.getElem_take] at ek
    rw [List.getElem?_eq_getElem (by omega), ek]
  have h2 : l = l.take L ++ [x] ++ l.drop (L + 1) := by
    rw [List.append_assoc]
    rw [List.getElem?_eq_getElem hL] at e
    injection e with e
    rw [← e]
    simp
  have h3 : nameOf l x = nameOf (l.take L ++ [x]) x := by
    conv => lhs; rw [h2]
    have : ∀ r : List α, nameOf ((l.take L ++ [x]) ++ r) x = nameOf (l.take L ++ [x]) x := by
      refine snoc_ind (by rw [List.append_nil]) fun r y ih => ?_
      rw [← List.append_assoc, nameOf_snoc y (by simp), ih]
    exact this _
  rw [h3, nameOf_new h1]
theorem valid_iff (p : List Int) : Valid p ↔ ∀ i, i < p.length → p.getD i 0 = (nameOf p (p.getD i 0) : Int) := by
  constructor
  · intro h i hi
    have hm : p.getD i 0 ∈ p := by
      rw [List.getD_eq_getElem?_getD, List.getElem?_eq_getElem hi]; exact List.getElem_mem hi
    exact (valid_name h hm).symm
  · intro h
    apply List.ext_getElem
    · rw [length_namesI]
    · intro i h1 h2
      have := h i h2
      rw [List.getD_eq_getElem?_getD, List.getElem?_eq_getElem h2, Option.getD_some] at this
      simp only [namesI, named, List.getElem_map]
      exact this.symm
def countM (p : List Int) : Nat := p.foldl (fun n b => max n (b + 1).toNat) 0
theorem countM_snoc (p : List Int) (b : Int) : countM (p ++ [b]) = max (countM p) (b + 1).toNat := by simp [countM]
theorem valid_count : ∀ {p : List Int}, Valid p → countM p = (dd p).length := by
  intro p
  refine snoc_ind (P := fun p => Valid p → countM p = (dd p).length) (fun _ => rfl) (fun p b ih h => ?_) p
  have hp := valid_pre h
  have hs := (valid_snoc hp b).1 h
  have hm := valid_mem hp (b := b)
  rw [countM_snoc, ih hp, dd_len_snoc]
  by_cases hb : b ∈ p
  · rw [if_pos hb]; have := hm.1 hb; omega
  · rw [if_neg hb]
    have : ¬ (0 ≤ b ∧ b < (dd p).length) := fun q => hb (hm.2 q)
    omega
theorem valid_names {α : Type} [DecidableEq α] (l : List α) : Valid (namesI l) := namesI_idem l
end Go.Proofs
