import Derived.Test.YtnlbodnipgkpaaaDoorCP3
/- Classes: meets, joins, the order: plain. -/
namespace Go.Proofs
abbrev gI (p : List Int) (i : Nat) : Int := p.getD i 0
/-! ### Meets -/
def meetM (p q : List Int) : List Int := namesI (p.zip q)
theorem length_meetM {p q : List Int} (h : p.length = q.length) : (meetM p q).length = p.length := by rw [meetM, length_namesI]; simp; omega
/-- The document's way. -/
def codes (p q : List Int) : List Int := (p.zip q).map fun x => x.1 * 1000 + x.2
theorem meet_codes {p q : List Int} (h : ∀ x ∈ q, 0 ≤ x ∧ x < 1000) : namesI (codes p q) = meetM p q := by
  refine SK.names (SK.symm ⟨by simp [codes], fun i j hi hj => ?_⟩)
  rw [codes, List.getElem?_map, List.getElem?_map, List.getElem?_eq_getElem hi, List.getElem?_eq_getElem hj]
  simp only [Option.map_some, Option.some.injEq]
  have h1 : 0 ≤ (p.zip q)[i].2 ∧ (p.zip q)[i].2 < 1000 := h _ (List.of_mem_zip (List.getElem_mem hi)).2
  have h2 : 0 ≤ (p.zip q)[j].2 ∧ (p.zip q)[j].2 < 1000 := h _ (List.of_mem_zip (List.getElem_mem hj)).2
  constructor
  · intro e; rw [e]
  · intro e
    apply Prod.ext <;> omega
/-! ### Joins -/
def orP (p q : List Int) (n : Nat) : Prs := (List.range n).flatMap fun i => ((List.range i).filter fun k => decide (gI p i = gI p k) || decide (gI q i = gI q k)).map fun k => (k, i)
theorem mem_orP {p q : List Int} {n : Nat} {x : Nat × Nat} : x ∈ orP p q n ↔ x.1 < x.2 ∧ x.2 < n ∧ (gI p x.2 = gI p x.1 ∨ gI q x.2 = gI q x.1) := by
  obtain ⟨k, i⟩ := x
  simp only [orP, List.mem_flatMap, List.mem_range, List.mem_map, List.mem_filter, Bool.or_eq_true, decide_eq_true_eq, Prod.mk.injEq]
  constructor
  · rintro ⟨a, ha, b, ⟨hb, hc⟩, rfl, rfl⟩; exact ⟨hb, ha, hc⟩
  · rintro ⟨h1, h2, h3⟩; exact ⟨i, h2, k, ⟨h1, h3⟩, rfl, rfl⟩
theorem orP_below (p q : List Int) (n : Nat) : Below n (orP p q n) := fun x hx => by
  have := mem_orP.1 hx; omega
def joinM (p q : List Int) : List Int := closeM p.length (orP p q p.length)
theorem length_closeM (n : Nat) (ps : Prs) : (closeM n ps).length = n := by rw [closeM, length_namesI, length_refCl]
theorem length_joinM (p q : List Int) : (joinM p q).length = p.length := length_closeM _ _
theorem conn_of {p q : List Int} {n i j : Nat} (hi : i < n) (hj : j < n) (h : gI p i = gI p j ∨ gI q i = gI q j) : Conn (orP p q n) i j := by
  rcases Nat.lt_trichotomy i j with a | rfl | a
  · exact .pair (mem_orP.2 ⟨a, hj, by rcases h with h | h; exact .inl h.symm; exact .inr h.symm⟩)
  · exact .refl _
  · exact Conn.symm (.pair (mem_orP.2 ⟨a, hi, h⟩))
/-- Pairs that tell the same as who is together by p or q. -/
theorem join_of {p q : List Int} {ps : Prs} (h1 : ∀ x ∈ ps, x.1 < p.length ∧ x.2 < p.length ∧ (gI p x.1 = gI p x.2 ∨ gI q x.1 = gI q x.2)) (h2 : ∀ i j, i < j → j < p.length → (gI p i = gI p j ∨ gI q i = gI q j) → Conn ps i j) : closeM p.length ps = joinM p q :=
  closeM_eq (fun x hx => ⟨(h1 x hx).1, (h1 x hx).2.1⟩) (orP_below _ _ _) (fun x hx => conn_of (h1 x hx).1 (h1 x hx).2.1 (h1 x hx).2.2) fun x hx => by
    obtain ⟨a, b, c⟩ := mem_orP.1 hx
    exact h2 _ _ a b (by rcases c with c | c; exact .inl c.symm; exact .inr c.symm)
/-! ### The order -/
def FinerM (p q : List Int) : Prop := ∀ i j, i < j → j < p.length → gI p i = gI p j → gI q i = gI q j
theorem finer_all {p q : List Int} (h : FinerM p q) {i j : Nat} (hi : i < p.length) (hj : j < p.length) (e : gI p i = gI p j) : gI q i = gI q j := by
  rcases Nat.lt_trichotomy i j with a | rfl | a
  · exact h i j a hj e
  · rfl
  · exact (h j i a hi e.symm).symm
/-! ### The lattice -/
end Go.Proofs
