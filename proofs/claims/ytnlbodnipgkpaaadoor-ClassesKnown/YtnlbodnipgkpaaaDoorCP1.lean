/- Classes: the partition of a list by equal elements: plain. -/
namespace Go.Proofs
section
variable {α β : Type} [DecidableEq α] [DecidableEq β]
/-- The different elements of a list, behind those of another one, in the order of their first places. -/
def ddG (acc : List α) : List α → List α
  | [] => acc
  | x :: l => ddG (if x ∈ acc then acc else acc ++ [x]) l
def dd (l : List α) : List α := ddG [] l
theorem ddG_append : ∀ (l acc r : List α), ddG acc (l ++ r) = ddG (ddG acc l) r
  | [], _, _ => rfl
  | x :: l, acc, r => by rw [List.cons_append, ddG, ddG_append l, ddG]
theorem dd_nil : dd ([] : List α) = [] := rfl
theorem dd_snoc (l : List α) (x : α) : dd (l ++ [x]) = if x ∈ dd l then dd l else dd l ++ [x] := by
  rw [dd, ddG_append]; rfl
theorem mem_ddG : ∀ (l acc : List α) (x : α), x ∈ ddG acc l ↔ x ∈ acc ∨ x ∈ l
  | [], acc, x => by simp [ddG]
  | y :: l, acc, x => by
    rw [ddG, mem_ddG l]
    by_cases h : y ∈ acc
    · rw [if_pos h]
      constructor
      · rintro (q | q)
        · exact .inl q
        · exact .inr (List.mem_cons_of_mem _ q)
      · rintro (q | q)
        · exact .inl q
        · rcases List.mem_cons.1 q with rfl | q
          · exact .inl h
          · exact .inr q
    · rw [if_neg h]
      simp only [List.mem_append, List.mem_cons, List.not_mem_nil, or_false]
      constructor
      · rintro ((q | q) | q)
        · exact .inl q
        · exact .inr (.inl q)
        · exact .inr (.inr q)
      · rintro (q | q | q)
        · exact .inl (.inl q)
        · exact .inl (.inr q)
        · exact .inr q
theorem mem_dd (l : List α) (x : α) : x ∈ dd l ↔ x ∈ l := by rw [dd, mem_ddG]; simp
/-- The name of an element. -/
def nameOf (l : List α) (x : α) : Nat := (dd l).idxOf x
def named (l : List α) : List Nat := l.map (nameOf l)
theorem length_named (l : List α) : (named l).length = l.length := by simp [named]
theorem nameOf_snoc {l : List α} {y : α} (x : α) (h : y ∈ l) : nameOf (l ++ [x]) y = nameOf l y := by
  rw [nameOf, dd_snoc]
  split
  · rfl
  · rw [List.idxOf_append, if_pos ((mem_dd l y).2 h)]; rfl
theorem nameOf_new {l : List α} {x : α} (h : ¬ x ∈ l) : nameOf (l ++ [x]) x = (dd l).length := by
  rw [nameOf, dd_snoc, if_neg (fun q => h ((mem_dd l x).1 q)), List.idxOf_append, if_neg (fun q => h ((mem_dd l x).1 q))]
  simp
theorem named_snoc (l : List α) (x : α) : named (l ++ [x]) = named l ++ [if x ∈ l then nameOf l x else (dd l).length] := by
  rw [named, List.map_append]
  congr 1
  · exact List.map_congr_left fun y hy => nameOf_snoc x hy
  · simp only [List.map_cons, List.map_nil]
    by_cases h : x ∈ l
    · rw [if_pos h, nameOf_snoc x h]
    · rw [if_neg h, nameOf_new h]
theorem dd_len_snoc (l : List α) (x : α) : (dd (l ++ [x])).length = if x ∈ l then (dd l).length else (dd l).length + 1 := by
  rw [dd_snoc]
  by_cases h : x ∈ l
  · rw [if_pos h, if_pos ((mem_dd l x).2 h)]
  · rw [if_neg h, if_neg (fun q => h ((mem_dd l x).1 q))]; simp
theorem nameOf_lt {l : List α} {x : α} (h : x ∈ l) : nameOf l x < (dd l).length := List.idxOf_lt_length_of_mem ((mem_dd l x).2 h)
theorem nameOf_inj {l : List α} {x y : α} (hx : x ∈ l) (hy : y ∈ l) (h : nameOf l x = nameOf l y) : x = y := by
  have h1 := nameOf_lt hx
  have h2 := nameOf_lt hy
  have e1 : (dd l)[nameOf l x] = x := List.getElem_idxOf h1
  have e2 : (dd l)[nameOf l y] = y := List.getElem_idxOf h2
  rw [← e1, ← e2]; congr 1
theorem named_at (l : List α) (k : Nat) (h : k < l.length) : (named l)[k]? = some (nameOf l l[k]) := by simp [named, h]
/-- Two lists have equal elements at the same places. -/
structure SK (l : List α) (r : List β) : Prop where
  n : l.length = r.length
  k : ∀ i j, i < l.length → j < l.length → (l[i]? = l[j]? ↔ r[i]? = r[j]?)
theorem mem_ker {ε : Type} {l : List ε} {x : ε} : x ∈ l ↔ ∃ k, k < l.length ∧ (l ++ [x])[k]? = (l ++ [x])[l.length]? := by
  constructor
  · intro h
    obtain ⟨k, hk, e⟩ := List.getElem_of_mem h
    exact ⟨k, hk, by simp [List.getElem?_append_left hk, hk, e]⟩
  · rintro ⟨k, hk, e⟩
    simp [List.getElem?_append_left hk, hk] at e
    exact e ▸ List.getElem_mem hk
theorem SK.pre {ε ζ : Type} {l : List ε} {r : List ζ} {x : ε} {y : ζ} (h : SK (l ++ [x]) (r ++ [y])) : SK l r := by
  have hn : l.length = r.length := by have := h.n; simpa using this
  refine ⟨hn, fun i j hi hj => ?_⟩
  have := h.k i j (by simp; omega) (by simp; omega)
  rwa [List.getElem?_append_left hi, List.getElem?_append_left hj, List.getElem?_append_left (by omega), List.getElem?_append_left (by omega)] at this
theorem SK.named_aux : ∀ (n : Nat) (l : List α) (r : List β), l.length = n → SK l r → named l = named r ∧ (dd l).length = (dd r).length
  | 0, l, r, hl, h => by
    obtain rfl := List.eq_nil_of_length_eq_zero hl
    obtain rfl := List.eq_nil_of_length_eq_zero (h.n.symm.trans hl)
    exact ⟨rfl, rfl⟩
  | n + 1, l, r, hl, h => by
    obtain ⟨l, x, rfl⟩ : ∃ l' x, l = l' ++ [x] := ⟨l.dropLast, l.getLast (by rintro rfl; simp at hl), (List.dropLast_concat_getLast _).symm⟩
    have hr := h.n.symm.trans hl
    obtain ⟨r, y, rfl⟩ : ∃ l' x, r = l' ++ [x] := ⟨r.dropLast, r.getLast (by rintro rfl; simp at hr), (List.dropLast_concat_getLast _).symm⟩
    have hp := h.pre
    obtain ⟨e1, e2⟩ := SK.named_aux n l r (by simpa using hl) hp
    have hk : ∀ k, k < l.length → ((l ++ [x])[k]? = (l ++ [x])[l.length]? ↔ (r ++ [y])[k]? = (r ++ [y])[r.length]?) := fun k hk => by
      have := h.k k l.length (by simp; omega) (by simp)
      rw [this, hp.n]
    have hm : x ∈ l ↔ y ∈ r := by
      rw [mem_ker, mem_ker]
      constructor
      · rintro ⟨k, q1, q2⟩; exact ⟨k, hp.n ▸ q1, (hk k q1).1 q2⟩
      · rintro ⟨k, q1, q2⟩; exact ⟨k, hp.n ▸ q1, (hk k (hp.n ▸ q1)).2 q2⟩
    rw [named_snoc, named_snoc, dd_len_snoc, dd_len_snoc]
    by_cases hx : x ∈ l
    · have hy := hm.1 hx
      rw [if_pos hx, if_pos hx, if_pos hy, if_pos hy, e2]
      refine ⟨?_, rfl⟩
      obtain ⟨k, q1, q2⟩ := mem_ker.1 hx
      have q3 := (hk k q1).1 q2
      have q4 : k < r.length := hp.n ▸ q1
      simp [List.getElem?_append_left q1, q1] at q2
      simp [List.getElem?_append_left q4, q4] at q3
      have a1 := named_at l k q1
      have a2 := named_at r k q4
      rw [e1, a2] at a1
      injection a1 with a1
      rw [q2, q3] at a1
      rw [e1, a1]
    · rw [if_neg hx, if_neg hx, if_neg (fun q => hx (hm.2 q)), if_neg (fun q => hx (hm.2 q)), e1, e2]
      exact ⟨rfl, rfl⟩
theorem SK.named {l : List α} {r : List β} (h : SK l r) : named l = Go.Proofs.named r := (SK.named_aux _ l r rfl h).1
theorem SK.symm {ε ζ : Type} {l : List ε} {r : List ζ} (h : SK l r) : SK r l := ⟨h.n.symm, fun i j hi hj => (h.k i j (h.n ▸ hi) (h.n ▸ hj)).symm⟩
theorem SK.trans {ε ζ : Type} {γ : Type} {l : List ε} {r : List ζ} {s : List γ} (h : SK l r) (k : SK r s) : SK l s := ⟨h.n.trans k.n, fun i j hi hj => (h.k i j hi hj).trans (k.k i j (h.n ▸ hi) (h.n ▸ hj))⟩
theorem sk_named (l : List α) : SK l (Go.Proofs.named l) := by
  refine ⟨(length_named l).symm, fun i j hi hj => ?_⟩
  rw [named_at l i hi, named_at l j hj, List.getElem?_eq_getElem hi, List.getElem?_eq_getElem hj]
  constructor
  · intro h; injection h with h; rw [h]
  · intro h; injection h with h
    rw [nameOf_inj (List.getElem_mem hi) (List.getElem_mem hj) h]
theorem sk_map {ε ζ : Type} {f : ε → ζ} (hf : ∀ x y, f x = f y → x = y) (l : List ε) : SK l (l.map f) := by
  refine ⟨by simp, fun i j hi hj => ?_⟩
  rw [List.getElem?_map, List.getElem?_map, List.getElem?_eq_getElem hi, List.getElem?_eq_getElem hj]
  constructor
  · intro h; injection h with h; rw [h]
  · intro h; simp only [Option.map_some, Option.some.injEq] at h; rw [hf _ _ h]
end
/-- The names of a list, as the program has them. -/
def namesI {α : Type} [DecidableEq α] (l : List α) : List Int := (named l).map fun (n : Nat) => (n : Int)
theorem length_namesI {α : Type} [DecidableEq α] (l : List α) : (namesI l).length = l.length := by simp [namesI, length_named]
theorem sk_namesI {α : Type} [DecidableEq α] (l : List α) : SK l (namesI l) := (sk_named l).trans (sk_map (fun x y h => by omega) _)
theorem SK.names {α β : Type} [DecidableEq α] [DecidableEq β] {l : List α} {r : List β} (h : SK l r) : namesI l = namesI r := by rw [namesI, namesI, h.named]
theorem namesI_idem {α : Type} [DecidableEq α] (l : List α) : namesI (namesI l) = namesI l := (sk_namesI l).symm.names
end Go.Proofs
