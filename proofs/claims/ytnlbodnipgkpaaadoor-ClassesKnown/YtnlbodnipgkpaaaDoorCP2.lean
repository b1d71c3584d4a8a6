import Derived.Test.YtnlbodnipgkpaaaDoorCP1
/- Classes: pairs that are together, and what follows from them: plain. -/
namespace Go.Proofs
set_option linter.unusedVariables false
abbrev Prs := List (Nat × Nat)
/-- Together by some pairs. -/
inductive Conn (ps : Prs) : Nat → Nat → Prop where
  | refl (i : Nat) : Conn ps i i
  | pair {a b : Nat} (h : (a, b) ∈ ps) : Conn ps a b
  | symm {i j : Nat} (h : Conn ps i j) : Conn ps j i
  | trans {i j k : Nat} (h : Conn ps i j) (h2 : Conn ps j k) : Conn ps i k
theorem Conn.sub {ps qs : Prs} (h : ∀ x ∈ ps, Conn qs x.1 x.2) {i j : Nat} (c : Conn ps i j) : Conn qs i j := by
  induction c with
  | refl i => exact .refl i
  | pair q => exact h _ q
  | symm _ ih => exact ih.symm
  | trans _ _ h1 h2 => exact h1.trans h2
theorem conn_nil {i j : Nat} : Conn [] i j ↔ i = j := by
  constructor
  · intro c
    induction c with
    | refl i => rfl
    | pair q => cases q
    | symm _ ih => exact ih.symm
    | trans _ _ h1 h2 => exact h1.trans h2
  · rintro rfl; exact .refl i
theorem conn_snoc (ps : Prs) (a b i j : Nat) : Conn (ps ++ [(a, b)]) i j ↔ Conn ps i j ∨ (Conn ps i a ∧ Conn ps b j) ∨ (Conn ps i b ∧ Conn ps a j) := by
  constructor
  · intro c
    induction c with
    | refl i => exact .inl (.refl i)
    | pair q =>
      rcases List.mem_append.1 q with q | q
      · exact .inl (.pair q)
      · simp at q; obtain ⟨rfl, rfl⟩ := q
        exact .inr (.inl ⟨.refl _, .refl _⟩)
    | symm _ ih =>
      rcases ih with h | ⟨h, k⟩ | ⟨h, k⟩
      · exact .inl h.symm
      · exact .inr (.inr ⟨k.symm, h.symm⟩)
      · exact .inr (.inl ⟨k.symm, h.symm⟩)
    | trans _ _ h1 h2 =>
      rcases h1 with h | ⟨h, k⟩ | ⟨h, k⟩ <;> rcases h2 with g | ⟨g, f⟩ | ⟨g, f⟩
      · exact .inl (h.trans g)
      · exact .inr (.inl ⟨h.trans g, f⟩)
      · exact .inr (.inr ⟨h.trans g, f⟩)
      · exact .inr (.inl ⟨h, k.trans g⟩)
      · exact .inr (.inl ⟨h, f⟩)
      · exact .inl (h.trans f)
      · exact .inr (.inr ⟨h, k.trans g⟩)
      · exact .inl (h.trans f)
      · exact .inr (.inr ⟨h, f⟩)
  · have up : ∀ {x y : Nat}, Conn ps x y → Conn (ps ++ [(a, b)]) x y := fun c => c.sub fun x hx => .pair (List.mem_append_left _ hx)
    have ab : Conn (ps ++ [(a, b)]) a b := .pair (by simp)
    rintro (h | ⟨h, k⟩ | ⟨h, k⟩)
    · exact up h
    · exact ((up h).trans ab).trans (up k)
    · exact ((up h).trans ab.symm).trans (up k)
/-- Labels that are equal where the pairs say so. -/
def Lab (ps : Prs) (n : Nat) (f : Nat → Int) : Prop := ∀ i j, i < n → j < n → (f i = f j ↔ Conn ps i j)
theorem lab_snoc {ps : Prs} {n a b : Nat} {f g : Nat → Int} (h : Lab ps n f) (ha : a < n) (hb : b < n)
    (hg : ∀ i, i < n → g i = if f i = f b then f a else f i) : Lab (ps ++ [(a, b)]) n g := fun i j hi hj => by
  rw [conn_snoc, ← h i j hi hj, ← h i a hi ha, ← h b j hb hj, ← h i b hi hb, ← h a j ha hj, hg i hi, hg j hj]
  split <;> split <;> omega
theorem lab_link {ps : Prs} {n a b : Nat} {f g : Nat → Int} (h : Lab ps n f) (ha : a < n) (hb : b < n)
    (hg : ∀ i, i < n → g i = if f i = max (f a) (f b) then min (f a) (f b) else f i) : Lab (ps ++ [(a, b)]) n g := fun i j hi hj => by
  rw [conn_snoc, ← h i j hi hj, ← h i a hi ha, ← h b j hb hj, ← h i b hi hb, ← h a j ha hj, hg i hi, hg j hj]
  split <;> split <;> omega
theorem sk_lab {ps qs : Prs} {n : Nat} {f g : Nat → Int} (hf : Lab ps n f) (hg : Lab qs n g) (h1 : ∀ x ∈ ps, Conn qs x.1 x.2) (h2 : ∀ x ∈ qs, Conn ps x.1 x.2) : SK ((List.range n).map f) ((List.range n).map g) := by
  refine ⟨by simp, fun i j hi hj => ?_⟩
  simp only [List.length_map, List.length_range] at hi hj
  simp only [List.getElem?_map, List.getElem?_range hi, List.getElem?_range hj, Option.map_some, Option.some.injEq]
  rw [hf i j hi hj, hg i j hi hj]
  exact ⟨fun c => c.sub h1, fun c => c.sub h2⟩
/-! ### The document's way: a name gives way -/
def relabL (l : List Int) (a b : Nat) : List Int := l.map fun v => if v = l.getD b 0 then l.getD a 0 else v
def refCl (n : Nat) (ps : Prs) : List Int := ps.foldl (fun l x => relabL l x.1 x.2) ((List.range n).map fun (k : Nat) => (k : Int))
theorem refCl_snoc (n : Nat) (ps : Prs) (x : Nat × Nat) : refCl n (ps ++ [x]) = relabL (refCl n ps) x.1 x.2 := by simp [refCl]
theorem length_refCl (n : Nat) : ∀ ps, (refCl n ps).length = n := by
  have h : ∀ (ps : Prs) (l : List Int), (ps.foldl (fun l x => relabL l x.1 x.2) l).length = l.length := fun ps => by
    induction ps with
    | nil => intro l; rfl
    | cons x ps ih => intro l; rw [List.foldl_cons, ih]; simp [relabL]
  intro ps
  rw [refCl, h]; simp
theorem snoc_ind {α : Type} {P : List α → Prop} (h0 : P []) (h1 : ∀ l x, P l → P (l ++ [x])) : ∀ l, P l := by
  intro l
  rw [← List.reverse_reverse l]
  induction l.reverse with
  | nil => exact h0
  | cons x r ih => rw [List.reverse_cons]; exact h1 _ _ ih
def Below (n : Nat) (ps : Prs) : Prop := ∀ x ∈ ps, x.1 < n ∧ x.2 < n
theorem refCl_lab (n : Nat) : ∀ ps, Below n ps → Lab ps n fun i => (refCl n ps).getD i 0 := by
  refine snoc_ind ?_ fun ps x ih h => ?_
  · intro _ i j hi hj
    rw [conn_nil]
    simp [refCl, hi, hj]; omega
  · obtain ⟨a, b⟩ := x
    have hx := h (a, b) (by simp)
    refine lab_snoc (ih fun y hy => h y (List.mem_append_left _ hy)) hx.1 hx.2 fun i hi => ?_
    rw [refCl_snoc, relabL]
    have hl := length_refCl n ps
    rw [List.getD_eq_getElem?_getD, List.getElem?_map, List.getElem?_eq_getElem (by omega)]
    simp [List.getD_eq_getElem?_getD, show i < (refCl n ps).length by omega]
theorem list_range (l : List Int) : l = (List.range l.length).map fun i => l.getD i 0 := by
  apply List.ext_getElem
  · simp
  · intro i h1 h2; simp [h1]
def closeM (n : Nat) (ps : Prs) : List Int := namesI (refCl n ps)
theorem closeM_lab {n : Nat} {ps qs : Prs} {f : Nat → Int} (hp : Below n ps) (hf : Lab qs n f) (h1 : ∀ x ∈ ps, Conn qs x.1 x.2) (h2 : ∀ x ∈ qs, Conn ps x.1 x.2) : namesI ((List.range n).map f) = closeM n ps := by
  have := (sk_lab (refCl_lab n ps hp) hf h1 h2).names
  rw [closeM, list_range (refCl n ps), length_refCl]
  exact this.symm
theorem closeM_eq {n : Nat} {ps qs : Prs} (hp : Below n ps) (hq : Below n qs) (h1 : ∀ x ∈ ps, Conn qs x.1 x.2) (h2 : ∀ x ∈ qs, Conn ps x.1 x.2) : closeM n ps = closeM n qs := by
  have e := list_range (refCl n qs)
  rw [length_refCl] at e
  rw [← closeM_lab hp (refCl_lab n qs hq) h1 h2, ← e]; rfl
/-! ### The program's way: trees -/
def Desc (U : List Nat) : Prop := ∀ i, U.getD i i ≤ i
def rootU (U : List Nat) (i : Nat) : Nat := if h : U.getD i i < i then rootU U (U.getD i i) else i
termination_by i
theorem root_up {U : List Nat} {i : Nat} (h : U.getD i i < i) : rootU U i = rootU U (U.getD i i) := by rw [rootU, dif_pos h]
theorem root_top {U : List Nat} {i : Nat} (h : ¬ U.getD i i < i) : rootU U i = i := by rw [rootU, dif_neg h]
theorem getD_set_self {α : Type} {l : List α} {i : Nat} (v d : α) (h : i < l.length) : (l.set i v).getD i d = v := by simp [List.getD_eq_getElem?_getD, h]
theorem getD_set_ne {α : Type} {l : List α} {i j : Nat} (v d : α) (h : i ≠ j) : (l.set i v).getD j d = l.getD j d := by simp [List.getD_eq_getElem?_getD, List.getElem?_set_ne h]
theorem root_fix {U : List Nat} (hd : Desc U) : ∀ i, U.getD (rootU U i) (rootU U i) = rootU U i := fun i => by
  induction i using Nat.strongRecOn with
  | _ i ih =>
    by_cases h : U.getD i i < i
    · rw [root_up h]; exact ih _ h
    · rw [root_top h]; have := hd i; omega
theorem root_le (U : List Nat) : ∀ i, rootU U i ≤ i := fun i => by
  induction i using Nat.strongRecOn with
  | _ i ih =>
    by_cases h : U.getD i i < i
    · rw [root_up h]; have := ih _ h; omega
    · rw [root_top h]; omega
/-- A member is hung up one higher. -/
def halfU (U : List Nat) (i : Nat) : List Nat := U.set i (U.getD (U.getD i i) (U.getD i i))
theorem half_desc {U : List Nat} (hd : Desc U) (i : Nat) : Desc (halfU U i) := fun j => by
  by_cases e : i = j
  · subst e
    by_cases hl : i < U.length
    · rw [halfU, getD_set_self _ _ hl]
      have h1 := hd i; have h2 := hd (U.getD i i); omega
    · rw [halfU, List.set_eq_of_length_le (by omega)]; exact hd i
  · rw [halfU, getD_set_ne _ _ e]; exact hd j
theorem half_root {U : List Nat} (hd : Desc U) (i : Nat) (hl : i < U.length) : ∀ j, rootU (halfU U i) j = rootU U j := fun j => by
  induction j using Nat.strongRecOn with
  | _ j ih =>
    by_cases e : i = j
    · subst e
      have h1 := hd i
      have h2 := hd (U.getD i i)
      have hg : (halfU U i).getD i i = U.getD (U.getD i i) (U.getD i i) := getD_set_self _ _ hl
      by_cases h : U.getD i i < i
      · rw [root_up (U := halfU U i) (by rw [hg]; omega), hg, ih _ (by omega), root_up h]
        by_cases h3 : U.getD (U.getD i i) (U.getD i i) < U.getD i i
        · rw [root_up h3]
        · rw [show U.getD (U.getD i i) (U.getD i i) = U.getD i i by omega]
      · have e2 : U.getD i i = i := by omega
        rw [root_top h, root_top (by rw [hg, e2, e2]; omega)]
    · have hg : (halfU U i).getD j j = U.getD j j := getD_set_ne _ _ e
      by_cases h : U.getD j j < j
      · rw [root_up (U := halfU U i) (by rw [hg]; omega), hg, ih _ h, root_up h]
      · rw [root_top h, root_top (by rw [hg]; omega)]
/-- What find does: the tree, and the top. -/
def findU (U : List Nat) : Nat → Nat → List Nat × Nat
  | 0, i => (U, i)
  | f + 1, i => if U.getD i i = i then (U, i) else findU (halfU U i) f ((halfU U i).getD i i)
theorem length_half (U : List Nat) (i : Nat) : (halfU U i).length = U.length := by simp [halfU]
theorem findU_spec : ∀ (f : Nat) (U : List Nat) (i : Nat), Desc U → i < U.length → i ≤ f → (findU U f i).2 = rootU U i ∧ Desc (findU U f i).1 ∧ (findU U f i).1.length = U.length ∧ ∀ j, rootU (findU U f i).1 j = rootU U j
  | 0, U, i, hd, hl, hf => by
    obtain rfl : i = 0 := by omega
    exact ⟨(root_top (U := U) (i := 0) (by omega)).symm, hd, rfl, fun _ => rfl⟩
  | f + 1, U, i, hd, hl, hf => by
    rw [findU]
    by_cases h : U.getD i i = i
    · rw [if_pos h]; exact ⟨(root_top (U := U) (i := i) (by omega)).symm, hd, rfl, fun _ => rfl⟩
    · rw [if_neg h]
      have h1 := hd i
      have h2 := hd (U.getD i i)
      have hg : (halfU U i).getD i i = U.getD (U.getD i i) (U.getD i i) := getD_set_self _ _ hl
      obtain ⟨a, b, c, d⟩ := findU_spec f (halfU U i) ((halfU U i).getD i i) (half_desc hd i) (by rw [length_half, hg]; omega) (by rw [hg]; omega)
      refine ⟨?_, b, by rw [c, length_half], fun j => by rw [d, half_root hd i hl]⟩
      rw [a, half_root hd i hl, hg]
      rw [root_up (U := U) (i := i) (by omega)]
      by_cases h3 : U.getD (U.getD i i) (U.getD i i) < U.getD i i
      · rw [root_up h3]
      · rw [show U.getD (U.getD i i) (U.getD i i) = U.getD i i by omega]
theorem link_root {U : List Nat} (hd : Desc U) {m l : Nat} (hm : U.getD m m = m) (hl : U.getD l l = l) (hlm : l ≤ m) (hlen : m < U.length) : Desc (U.set m l) ∧ ∀ j, rootU (U.set m l) j = if rootU U j = m then l else rootU U j := by
  have g1 : (U.set m l).getD m m = l := getD_set_self _ _ hlen
  refine ⟨fun j => ?_, fun j => ?_⟩
  · by_cases e : m = j
    · subst e; rw [g1]; omega
    · rw [getD_set_ne _ _ e]; exact hd j
  · induction j using Nat.strongRecOn with
    | _ j ih =>
      by_cases e : m = j
      · subst e
        rw [root_top (U := U) (i := m) (by omega), if_pos rfl]
        by_cases h : l < m
        · rw [root_up (by rw [g1]; omega), g1]
          exact root_top (by rw [getD_set_ne _ _ (by omega)]; omega)
        · rw [root_top (by rw [g1]; omega)]; omega
      · have g2 : (U.set m l).getD j j = U.getD j j := getD_set_ne _ _ e
        by_cases h : U.getD j j < j
        · rw [root_up (U := U.set m l) (by rw [g2]; omega), g2, ih _ h, root_up h]
        · rw [root_top (U := U) h, if_neg (fun q => e q.symm), root_top (by rw [g2]; omega)]
/-- One pair: both ends are found, one top is hung below the other. -/
def pairU (n : Nat) (U : List Nat) (x : Nat × Nat) : List Nat :=
  let A := findU U n x.1
  let B := findU A.1 n x.2
  B.1.set (max A.2 B.2) (min A.2 B.2)
def treeU (n : Nat) (ps : Prs) : List Nat := ps.foldl (pairU n) (List.range n)
theorem treeU_snoc (n : Nat) (ps : Prs) (x : Nat × Nat) : treeU n (ps ++ [x]) = pairU n (treeU n ps) x := by simp [treeU]
structure TreeOk (ps : Prs) (n : Nat) (U : List Nat) : Prop where
  d : Desc U
  len : U.length = n
  l : Lab ps n fun i => (rootU U i : Int)
theorem treeU_ok (n : Nat) : ∀ ps, Below n ps → TreeOk ps n (treeU n ps) := by
  refine snoc_ind ?_ fun ps x ih h => ?_
  · intro _
    have hr : ∀ i, (List.range n).getD i i = i := fun i => by
      rw [List.getD_eq_getElem?_getD]
      rcases Nat.lt_or_ge i n with q | q
      · rw [List.getElem?_range q]; rfl
      · rw [List.getElem?_eq_none (by simpa using q)]; rfl
    refine ⟨fun i => Nat.le_of_eq (hr i), by simp [treeU], fun i j hi hj => ?_⟩
    show ((rootU (List.range n) i : Nat) : Int) = (rootU (List.range n) j : Nat) ↔ _
    rw [conn_nil, root_top (by rw [hr]; omega), root_top (by rw [hr]; omega)]
    omega
  · obtain ⟨a, b⟩ := x
    have hx := h (a, b) (by simp)
    dsimp only at hx
    obtain ⟨hd, hn, hl⟩ := ih fun y hy => h y (List.mem_append_left _ hy)
    rw [treeU_snoc]
    generalize treeU n ps = U at *
    obtain ⟨a1, a2, a3, a4⟩ := findU_spec n U a hd (by omega) (by omega)
    unfold pairU
    dsimp only
    generalize findU U n a = A at *
    obtain ⟨b1, b2, b3, b4⟩ := findU_spec n A.1 b a2 (by omega) (by omega)
    generalize findU A.1 n b = B at *
    rw [a4] at b1
    have hr : ∀ j, rootU B.1 j = rootU U j := fun j => by rw [b4, a4]
    have f1 : B.1.getD A.2 A.2 = A.2 := by have := root_fix b2 a; rwa [hr, ← a1] at this
    have f2 : B.1.getD B.2 B.2 = B.2 := by have := root_fix b2 b; rwa [hr, ← b1] at this
    have l1 := root_le U a
    have l2 := root_le U b
    obtain ⟨g1, g2⟩ := link_root (U := B.1) b2 (m := max A.2 B.2) (l := min A.2 B.2) (by rcases Nat.le_total A.2 B.2 with q | q <;> simp only [Nat.max_eq_left, Nat.max_eq_right, q] <;> assumption) (by rcases Nat.le_total A.2 B.2 with q | q <;> simp only [Nat.min_eq_left, Nat.min_eq_right, q] <;> assumption) (by omega) (by omega)
    refine ⟨g1, by simp; omega, lab_link hl hx.1 hx.2 fun i hi => ?_⟩
    show ((rootU _ i : Nat) : Int) = _
    rw [g2, hr, ← a1, ← b1]
    split <;> split <;> omega
theorem tree_close {n : Nat} {ps : Prs} (h : Below n ps) : namesI ((List.range n).map fun i => (rootU (treeU n ps) i : Int)) = closeM n ps :=
  closeM_lab h (treeU_ok n ps h).l (fun x hx => .pair hx) fun x hx => .pair hx
end Go.Proofs
