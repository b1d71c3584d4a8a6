import Derived.Test.YtnlbodnipgkpaaaDoorCP3
/- Classes: meets, joins, the order: plain. -/
namespace Go.Proofs
abbrev gI (p : List Int) (i : Nat) : Int := p.getD i 0
theorem gI_get {p : List Int} {i : Nat} (h : i < p.length) : p[i]? = some (gI p i) := by simp [gI, h]
theorem gI_eq {p : List Int} {i j : Nat} (hi : i < p.length) (hj : j < p.length) : p[i]? = p[j]? ↔ gI p i = gI p j := by
  rw [gI_get hi, gI_get hj]; simp
theorem sk_of {p q : List Int} (h : p.length = q.length) (k : ∀ i j, i < p.length → j < p.length → (gI p i = gI p j ↔ gI q i = gI q j)) : SK p q :=
  ⟨h, fun i j hi hj => by rw [gI_eq hi hj, gI_eq (h ▸ hi) (h ▸ hj)]; exact k i j hi hj⟩
theorem valid_eq {p q : List Int} (hp : Valid p) (hq : Valid q) (h : p.length = q.length) (k : ∀ i j, i < p.length → j < p.length → (gI p i = gI p j ↔ gI q i = gI q j)) : p = q := valid_ext hp hq (sk_of h k)
theorem names_at {α : Type} [DecidableEq α] (l : List α) {i j : Nat} (hi : i < l.length) (hj : j < l.length) : gI (namesI l) i = gI (namesI l) j ↔ l[i]? = l[j]? := by
  rw [← gI_eq (by rw [length_namesI]; exact hi) (by rw [length_namesI]; exact hj)]
  exact ((sk_namesI l).k i j hi hj).symm
/-! ### Meets -/
def meetM (p q : List Int) : List Int := namesI (p.zip q)
theorem length_meetM {p q : List Int} (h : p.length = q.length) : (meetM p q).length = p.length := by rw [meetM, length_namesI]; simp; omega
theorem meet_at {p q : List Int} (h : p.length = q.length) {i j : Nat} (hi : i < p.length) (hj : j < p.length) : gI (meetM p q) i = gI (meetM p q) j ↔ gI p i = gI p j ∧ gI q i = gI q j := by
  rw [meetM, names_at _ (by simp; omega) (by simp; omega)]
  have e : ∀ k, k < p.length → (p.zip q)[k]? = some (gI p k, gI q k) := fun k hk => by
    rw [List.getElem?_zip_eq_some]; exact ⟨gI_get hk, gI_get (h ▸ hk)⟩
  rw [e i hi, e j hj]; simp
theorem meet_valid (p q : List Int) : Valid (meetM p q) := valid_names _
/-- The document's way. -/
def codes (p q : List Int) : List Int := (p.zip q).map fun x => x.1 * 1000 + x.2
theorem meet_codes {p q : List Int} (h : ∀ x ∈ q, 0 ≤ x ∧ x < 1000) : namesI (codes p q) = meetM p q := by
  refine SK.names (SK.symm ⟨by simp [codes], fun i j hi hj => ?_⟩)
  rw [codes, List.getElem?_map, List.getElem?_map, List.getElem?_eq_getElem hi, List.getElem?_eq_getElem hj]
  simp only [Option.map_some, Option.some.injEq]
  have h1 : 0 ≤ (p.zip q)[i].2 ∧ (p.zip q)[i].2 < 1000 := h _ (List.of_mem_zip (List.getElem_mem hi)).2
  have h2 : 0 ≤ (p.zip q)[j].2 ∧ (p.zip q)[j].2 < 1000 := h _ (List.of_mem_zip (List.getElem_mem hj)).2
  constructor
  · intro e; rw [e]
  · intro e
    apply Prod.ext <;> omega
/-! ### Joins -/
def orP (p q : List Int) (n : Nat) : Prs := (List.range n).flatMap fun i => ((List.range i).filter fun k => decide (gI p i = gI p k) || decide (gI q i = gI q k)).map fun k => (k, i)
theorem mem_orP {p q : List Int} {n : Nat} {x : Nat × Nat} : x ∈ orP p q n ↔ x.1 < x.2 ∧ x.2 < n ∧ (gI p x.2 = gI p x.1 ∨ gI q x.2 = gI q x.1) := by
  obtain ⟨k, i⟩ := x
  simp only [orP, List.mem_flatMap, List.mem_range, List.mem_map, List.mem_filter, Bool.or_eq_true, decide_eq_true_eq, Prod.mk.injEq]
  constructor
  · rintro ⟨a, ha, b, ⟨hb, hc⟩, rfl, rfl⟩; exact ⟨hb, ha, hc⟩
  · rintro ⟨h1, h2, h3⟩; exact ⟨i, h2, k, ⟨h1, h3⟩, rfl, rfl⟩
theorem orP_below (p q : List Int) (n : Nat) : Below n (orP p q n) := fun x hx => by
  have := mem_orP.1 hx; omega
def joinM (p q : List Int) : List Int := closeM p.length (orP p q p.length)
theorem length_closeM (n : Nat) (ps : Prs) : (closeM n ps).length = n := by rw [closeM, length_namesI, length_refCl]
theorem length_joinM (p q : List Int) : (joinM p q).length = p.length := length_closeM _ _
theorem join_valid (p q : List Int) : Valid (joinM p q) := valid_names _
theorem close_at {n : Nat} {ps : Prs} (h : Below n ps) {i j : Nat} (hi : i < n) (hj : j < n) : gI (closeM n ps) i = gI (closeM n ps) j ↔ Conn ps i j := by
  have hl := length_refCl n ps
  rw [closeM, names_at _ (by omega) (by omega), gI_eq (by omega) (by omega)]
  exact refCl_lab n ps h i j hi hj
theorem join_at (p q : List Int) {i j : Nat} (hi : i < p.length) (hj : j < p.length) : gI (joinM p q) i = gI (joinM p q) j ↔ Conn (orP p q p.length) i j := close_at (orP_below _ _ _) hi hj
theorem Conn.lift {ps : Prs} {E : Nat → Nat → Prop} (h0 : ∀ i, E i i) (h1 : ∀ i j, E i j → E j i) (h2 : ∀ i j k, E i j → E j k → E i k) (h : ∀ x ∈ ps, E x.1 x.2) {i j : Nat} (c : Conn ps i j) : E i j := by
  induction c with
  | refl i => exact h0 i
  | pair q => exact h _ q
  | symm _ ih => exact h1 _ _ ih
  | trans _ _ a b => exact h2 _ _ _ a b
theorem conn_of {p q : List Int} {n i j : Nat} (hi : i < n) (hj : j < n) (h : gI p i = gI p j ∨ gI q i = gI q j) : Conn (orP p q n) i j := by
  rcases Nat.lt_trichotomy i j with a | rfl | a
  · exact .pair (mem_orP.2 ⟨a, hj, by rcases h with h | h; exact .inl h.symm; exact .inr h.symm⟩)
  · exact .refl _
  · exact Conn.symm (.pair (mem_orP.2 ⟨a, hi, h⟩))
/-- Pairs that tell the same as who is together by p or q. -/
theorem join_of {p q : List Int} {ps : Prs} (h1 : ∀ x ∈ ps, x.1 < p.length ∧ x.2 < p.length ∧ (gI p x.1 = gI p x.2 ∨ gI q x.1 = gI q x.2)) (h2 : ∀ i j, i < j → j < p.length → (gI p i = gI p j ∨ gI q i = gI q j) → Conn ps i j) : closeM p.length ps = joinM p q :=
  closeM_eq (fun x hx => ⟨(h1 x hx).1, (h1 x hx).2.1⟩) (orP_below _ _ _) (fun x hx => conn_of (h1 x hx).1 (h1 x hx).2.1 (h1 x hx).2.2) fun x hx => by
    obtain ⟨a, b, c⟩ := mem_orP.1 hx
    exact h2 _ _ a b (by rcases c with c | c; exact .inl c.symm; exact .inr c.symm)
/-! ### The order -/
def FinerM (p q : List Int) : Prop := ∀ i j, i < j → j < p.length → gI p i = gI p j → gI q i = gI q j
theorem finer_all {p q : List Int} (h : FinerM p q) {i j : Nat} (hi : i < p.length) (hj : j < p.length) (e : gI p i = gI p j) : gI q i = gI q j := by
  rcases Nat.lt_trichotomy i j with a | rfl | a
  · exact h i j a hj e
  · rfl
  · exact (h j i a hi e.symm).symm
/-! ### The lattice -/
theorem meet_comm {p q : List Int} (h1 : p.length = q.length) : meetM p q = meetM q p :=
  valid_eq (meet_valid _ _) (meet_valid _ _) (by rw [length_meetM h1, length_meetM h1.symm, h1]) fun i j hi hj => by
    rw [length_meetM h1] at hi hj
    rw [meet_at h1 hi hj, meet_at h1.symm (h1 ▸ hi) (h1 ▸ hj)]
    exact ⟨fun x => ⟨x.2, x.1⟩, fun x => ⟨x.2, x.1⟩⟩
theorem join_comm {p q : List Int} (h1 : p.length = q.length) : joinM p q = joinM q p := by
  rw [joinM, h1]
  exact join_of (fun x hx => by
    obtain ⟨a, b, c⟩ := mem_orP.1 hx
    exact ⟨by omega, by omega, by rcases c with c | c; exact .inr c.symm; exact .inl c.symm⟩) fun i j a b c => conn_of (by omega) (by omega) (by rcases c with c | c; exact .inr c; exact .inl c)
theorem meet_join {p q : List Int} (hp : Valid p) : meetM p (joinM p q) = p := by
  have hl : p.length = (joinM p q).length := (length_joinM p q).symm
  refine valid_eq (meet_valid _ _) hp (length_meetM hl) fun i j hi hj => ?_
  rw [length_meetM hl] at hi hj
  rw [meet_at hl hi hj, join_at p q hi hj]
  exact ⟨fun x => x.1, fun x => ⟨x, conn_of hi hj (.inl x)⟩⟩
theorem join_meet {p q : List Int} (hp : Valid p) (h1 : p.length = q.length) : joinM p (meetM p q) = p := by
  refine valid_eq (join_valid _ _) hp (length_joinM _ _) fun i j hi hj => ?_
  rw [length_joinM] at hi hj
  rw [join_at _ _ hi hj]
  refine ⟨fun c => ?_, fun x => conn_of hi hj (.inl x)⟩
  refine Conn.lift (E := fun i j => gI p i = gI p j) (fun _ => rfl) (fun _ _ => Eq.symm) (fun _ _ _ => Eq.trans) (fun x hx => ?_) c
  obtain ⟨a, b, c⟩ := mem_orP.1 hx
  rcases c with c | c
  · exact c.symm
  · exact ((meet_at h1 (by omega) (by omega)).1 c).1.symm
theorem meet_assoc {p q r : List Int} (h1 : p.length = q.length) (h2 : q.length = r.length) : meetM (meetM p q) r = meetM p (meetM q r) := by
  have l1 := length_meetM h1
  have l2 := length_meetM h2
  refine valid_eq (meet_valid _ _) (meet_valid _ _) (by rw [length_meetM (p := meetM p q) (by omega), l1, length_meetM (p := p) (by omega)]) fun i j hi hj => ?_
  rw [length_meetM (by omega), l1] at hi hj
  rw [meet_at (by omega) (by omega) (by omega), meet_at h1 hi hj, meet_at (by omega) hi hj, meet_at h2 (by omega) (by omega)]
  exact ⟨fun x => ⟨x.1.1, x.1.2, x.2⟩, fun x => ⟨⟨x.1, x.2.1⟩, x.2.2⟩⟩
theorem join_assoc {p q r : List Int} (h1 : p.length = q.length) (h2 : q.length = r.length) : joinM (joinM p q) r = joinM p (joinM q r) := by
  have l1 := length_joinM p q
  have l2 := length_joinM q r
  refine valid_eq (join_valid _ _) (join_valid _ _) (by rw [length_joinM, l1, length_joinM]) fun i j hi hj => ?_
  rw [length_joinM, l1] at hi hj
  rw [join_at _ _ (by omega) (by omega), join_at _ _ hi hj]
  have up1 : ∀ {x y : Nat}, x < p.length → y < p.length → gI p x = gI p y → gI (joinM p q) x = gI (joinM p q) y := fun a b c => (join_at p q a b).2 (conn_of a b (.inl c))
  have up2 : ∀ {x y : Nat}, x < p.length → y < p.length → gI q x = gI q y → gI (joinM p q) x = gI (joinM p q) y := fun a b c => (join_at p q a b).2 (conn_of a b (.inr c))
  have up3 : ∀ {x y : Nat}, x < p.length → y < p.length → gI q x = gI q y → gI (joinM q r) x = gI (joinM q r) y := fun a b c => (join_at q r (by omega) (by omega)).2 (conn_of (by omega) (by omega) (.inl c))
  have up4 : ∀ {x y : Nat}, x < p.length → y < p.length → gI r x = gI r y → gI (joinM q r) x = gI (joinM q r) y := fun a b c => (join_at q r (by omega) (by omega)).2 (conn_of (by omega) (by omega) (.inr c))
  constructor
  · intro c
    refine c.sub fun x hx => ?_
    obtain ⟨a, b, c⟩ := mem_orP.1 hx
    rw [l1] at b
    rcases c with c | c
    · rw [join_at _ _ (by omega) (by omega)] at c
      refine (c.sub fun y hy => ?_).symm
      obtain ⟨a', b', c'⟩ := mem_orP.1 hy
      refine Conn.symm (conn_of (by omega) (by omega) ?_)
      rcases c' with c' | c'
      · exact .inl c'
      · exact .inr (up3 (by omega) (by omega) c')
    · exact Conn.symm (conn_of (by omega) (by omega) (.inr (up4 (by omega) (by omega) c)))
  · intro c
    refine c.sub fun x hx => ?_
    obtain ⟨a, b, c⟩ := mem_orP.1 hx
    rcases c with c | c
    · exact Conn.symm (conn_of (by omega) (by omega) (.inl (up1 (by omega) (by omega) c)))
    · rw [join_at _ _ (by omega) (by omega)] at c
      refine (c.sub fun y hy => ?_).symm
      obtain ⟨a', b', c'⟩ := mem_orP.1 hy
      refine Conn.symm (conn_of (by omega) (by omega) ?_)
      rcases c' with c' | c'
      · exact .inl (up2 (by omega) (by omega) c')
      · exact .inr c'
theorem finer_meet {p q : List Int} (hp : Valid p) (h1 : p.length = q.length) : FinerM p q ↔ meetM p q = p := by
  constructor
  · intro h
    refine valid_eq (meet_valid _ _) hp (length_meetM h1) fun i j hi hj => ?_
    rw [length_meetM h1] at hi hj
    rw [meet_at h1 hi hj]
    exact ⟨fun x => x.1, fun x => ⟨x, finer_all h hi hj x⟩⟩
  · intro h i j hij hj e
    rw [← h] at e
    exact ((meet_at h1 (by omega) hj).1 e).2
theorem finer_join {p q : List Int} (hq : Valid q) (h1 : p.length = q.length) : FinerM p q ↔ joinM p q = q := by
  constructor
  · intro h
    refine valid_eq (join_valid _ _) hq (by rw [length_joinM, h1]) fun i j hi hj => ?_
    rw [length_joinM] at hi hj
    rw [join_at _ _ hi hj]
    refine ⟨fun c => ?_, fun x => conn_of hi hj (.inr x)⟩
    refine Conn.lift (E := fun i j => gI q i = gI q j) (fun _ => rfl) (fun _ _ => Eq.symm) (fun _ _ _ => Eq.trans) (fun x hx => ?_) c
    obtain ⟨a, b, c⟩ := mem_orP.1 hx
    rcases c with c | c
    · exact (finer_all h (by omega) (by omega) c).symm
    · exact c.symm
  · intro h i j hij hj e
    rw [← h]
    exact (join_at p q (by omega) hj).2 (conn_of (by omega) hj (.inl e))
theorem finer_low {p q : List Int} (h1 : p.length = q.length) : FinerM (meetM p q) p := fun i j hij hj e => by
  rw [length_meetM h1] at hj
  exact ((meet_at h1 (by omega) hj).1 e).1
theorem finer_high {p q : List Int} : FinerM p (joinM p q) := fun i j hij hj e => (join_at p q (by omega) hj).2 (conn_of (by omega) hj (.inl e))
theorem count_finer {p q : List Int} (hp : Valid p) (hq : Valid q) (h1 : p.length = q.length) (h : FinerM p q) : countM q ≤ countM p := by
  rw [valid_count hp, valid_count hq]
  refine count_mono p.length p q rfl h1.symm fun i j hi hj e => ?_
  rw [gI_eq hi hj] at e
  rw [gI_eq (h1 ▸ hi) (h1 ▸ hj)]
  exact finer_all h hi hj e
end Go.Proofs
