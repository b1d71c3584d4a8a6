import Derived.Test.YtnlbodnipgkpaaaDoorCP4
/- Classes: blocks: plain. -/
namespace Go.Proofs
set_option linter.unusedVariables false
def idxs (p : List Int) (b : Nat) : List Nat := (List.range p.length).filter fun i => decide (gI p i = b)
def blocksM (p : List Int) : List (List Nat) := (List.range (countM p)).map (idxs p)
theorem mem_idxs {p : List Int} {b i : Nat} : i ∈ idxs p b ↔ i < p.length ∧ gI p i = b := by simp [idxs]
theorem idxs_lt (p : List Int) (b : Nat) : (idxs p b).Pairwise (· < ·) := List.Pairwise.filter _ (List.pairwise_lt_range)
theorem idxs_len (p : List Int) (b : Nat) : (idxs p b).length ≤ p.length := by
  have := List.length_filter_le (fun i => decide (gI p i = b)) (List.range p.length)
  simpa [idxs] using this
theorem length_blocksM (p : List Int) : (blocksM p).length = countM p := by simp [blocksM]
theorem valid_range {p : List Int} (h : Valid p) {i : Nat} (hi : i < p.length) : 0 ≤ gI p i ∧ gI p i < countM p := by
  rw [valid_count h]
  refine (valid_mem h).1 ?_
  rw [gI, List.getD_eq_getElem?_getD, List.getElem?_eq_getElem hi]; exact List.getElem_mem hi
theorem idxs_ne {p : List Int} (h : Valid p) {b : Nat} (hb : b < countM p) : idxs p b ≠ [] := by
  have hm : (b : Int) ∈ p := (valid_mem h).2 ⟨by omega, by rw [← valid_count h]; omega⟩
  obtain ⟨k, hk, e⟩ := List.getElem_of_mem hm
  have : k ∈ idxs p b := mem_idxs.2 ⟨hk, by simp [gI, hk, e]⟩
  exact List.ne_nil_of_mem this
/-- After i numbers. -/
def idxsK (p : List Int) (k b : Nat) : List Nat := (List.range k).filter fun i => decide (gI p i = b)
theorem idxsK_succ (p : List Int) (k b : Nat) : idxsK p (k + 1) b = idxsK p k b ++ if gI p k = b then [k] else [] := by
  rw [idxsK, List.range_succ, List.filter_append, idxsK]
  congr 1
  rw [List.filter_cons, List.filter_nil]
  by_cases h : gI p k = b
  · rw [if_pos h, if_pos (by simpa using h)]
  · rw [if_neg h, if_neg (by simpa using h)]
theorem idxsK_all (p : List Int) (b : Nat) : idxsK p p.length b = idxs p b := rfl
theorem idxsK_len (p : List Int) (k b : Nat) : (idxsK p k b).length ≤ k := by
  have := List.length_filter_le (fun i => decide (gI p i = b)) (List.range k)
  simpa [idxsK] using this
/-- How many numbers the first b blocks have. -/
def manyM (p : List Int) (k b : Nat) : Nat := ((List.range b).map fun c => (idxsK p k c).length).sum
theorem manyM_b (p : List Int) (k b : Nat) : manyM p k (b + 1) = manyM p k b + (idxsK p k b).length := by
  simp [manyM, List.range_succ]
theorem sum_one : ∀ (n b : Nat) (f g : Nat → Nat), b < n → (∀ c, c ≠ b → g c = f c) → g b = f b + 1 → ((List.range n).map g).sum = ((List.range n).map f).sum + 1
  | 0, b, f, g, h, _, _ => by omega
  | n + 1, b, f, g, h, h1, h2 => by
    simp only [List.range_succ, List.map_append, List.sum_append, List.map_cons, List.map_nil, List.sum_cons, List.sum_nil]
    by_cases e : b = n
    · subst e
      have : (List.range b).map g = (List.range b).map f := List.map_congr_left fun c hc => h1 c (by have := List.mem_range.1 hc; omega)
      rw [this, h2]; omega
    · rw [sum_one n b f g (by omega) h1 h2, h1 n (by omega)]; omega
theorem many_all {p : List Int} (h : Valid p) : ∀ k, k ≤ p.length → manyM p k (countM p) = k
  | 0, _ => by
    have : ∀ n : Nat, ((List.range n).map fun _ => 0).sum = 0 := fun n => by
      induction n with
      | zero => rfl
      | succ n ih => simp [List.range_succ, ih]
    simp [manyM, idxsK, this]
  | k + 1, hk => by
    have hr := valid_range h (i := k) (by omega)
    obtain ⟨b, hb⟩ : ∃ b : Nat, gI p k = b := ⟨(gI p k).toNat, by omega⟩
    rw [manyM, sum_one (countM p) b (fun c => (idxsK p k c).length) (fun c => (idxsK p (k + 1) c).length) (by omega) (fun c hc => by
      rw [idxsK_succ, if_neg (by omega), List.append_nil]) (by
      rw [idxsK_succ, if_pos hb]; simp)]
    have := many_all h k (by omega)
    rw [manyM] at this
    rw [this]
/-! ### The program's pairs for a join -/
def blkP (l : List Nat) : Prs := l.map fun i => (l.getD 0 0, i)
def blksP (p : List Int) : Prs := (blocksM p).flatMap blkP
theorem mem_blksP {p : List Int} {x : Nat × Nat} (h : x ∈ blksP p) : x.1 < p.length ∧ x.2 < p.length ∧ gI p x.1 = gI p x.2 := by
  obtain ⟨l, hl, hx⟩ := List.mem_flatMap.1 h
  obtain ⟨b, hb, rfl⟩ := List.mem_map.1 hl
  obtain ⟨i, hi, rfl⟩ := List.mem_map.1 hx
  have h1 := mem_idxs.1 hi
  have h0 : (idxs p b).getD 0 0 ∈ idxs p b := by
    cases e : idxs p b with
    | nil => rw [e] at hi; cases hi
    | cons y ys => simp
  have h2 := mem_idxs.1 h0
  exact ⟨h2.1, h1.1, by rw [h1.2, h2.2]⟩
theorem blksP_conn {p : List Int} (h : Valid p) {ps : Prs} (hs : ∀ x ∈ blksP p, x ∈ ps) {i j : Nat} (hi : i < p.length) (hj : j < p.length) (e : gI p i = gI p j) : Conn ps i j := by
  have hr := valid_range h hi
  obtain ⟨b, hb⟩ : ∃ b : Nat, gI p i = b := ⟨(gI p i).toNat, by omega⟩
  have hm : idxs p b ∈ blocksM p := List.mem_map.2 ⟨b, List.mem_range.2 (by omega), rfl⟩
  have h1 : ((idxs p b).getD 0 0, i) ∈ ps := hs _ (List.mem_flatMap.2 ⟨_, hm, List.mem_map.2 ⟨i, mem_idxs.2 ⟨hi, hb⟩, rfl⟩⟩)
  have h2 : ((idxs p b).getD 0 0, j) ∈ ps := hs _ (List.mem_flatMap.2 ⟨_, hm, List.mem_map.2 ⟨j, mem_idxs.2 ⟨hj, e ▸ hb⟩, rfl⟩⟩)
  exact (Conn.symm (.pair h1)).trans (.pair h2)
theorem join_blocks {p q : List Int} (hp : Valid p) (hq : Valid q) (hl : p.length = q.length) : closeM p.length (blksP p ++ blksP q) = joinM p q := by
  refine join_of (fun x hx => ?_) fun i j hij hj e => ?_
  · rcases List.mem_append.1 hx with h | h
    · have := mem_blksP h; exact ⟨this.1, this.2.1, .inl this.2.2⟩
    · have := mem_blksP h; exact ⟨by omega, by omega, .inr this.2.2⟩
  · rcases e with e | e
    · exact blksP_conn hp (fun x hx => List.mem_append_left _ hx) (by omega) hj e
    · exact blksP_conn hq (fun x hx => List.mem_append_right _ hx) (by omega) (by omega) e
theorem blksP_below (p : List Int) : Below p.length (blksP p) := fun x hx => ⟨(mem_blksP hx).1, (mem_blksP hx).2.1⟩
/-! ### The program's way to the order -/
def blkF (q : List Int) (l : List Nat) : Bool := l.all fun i => decide (gI q i = gI q (l.getD 0 0))
def finB (p q : List Int) : Bool := (blocksM p).all (blkF q)
theorem finB_iff {p q : List Int} (hp : Valid p) : finB p q = true ↔ FinerM p q := by
  simp only [finB, List.all_eq_true, blkF, decide_eq_true_eq]
  constructor
  · intro h i j hij hj e
    have hr := valid_range hp (i := i) (by omega)
    obtain ⟨b, hb⟩ : ∃ b : Nat, gI p i = b := ⟨(gI p i).toNat, by omega⟩
    have hm : idxs p b ∈ blocksM p := List.mem_map.2 ⟨b, List.mem_range.2 (by omega), rfl⟩
    rw [h _ hm i (mem_idxs.2 ⟨by omega, hb⟩), h _ hm j (mem_idxs.2 ⟨hj, e ▸ hb⟩)]
  · intro h l hl i hi
    obtain ⟨b, hb, rfl⟩ := List.mem_map.1 hl
    have h0 : (idxs p b).getD 0 0 ∈ idxs p b := by
      cases e : idxs p b with
      | nil => rw [e] at hi; cases hi
      | cons y ys => simp
    have h1 := mem_idxs.1 hi
    have h2 := mem_idxs.1 h0
    exact finer_all h h1.1 h2.1 (by rw [h1.2, h2.2])
end Go.Proofs
