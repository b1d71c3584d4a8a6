import Derived.Test.YtnlbodnipgkpaaaDoorCP6
import Derived.KernelRfl
/- Classes: what is written is read: plain. -/
namespace Go.Proofs
open Go Go.V
theorem num14 : ((List.range 14).all fun i => decide (atoiM (numT i) = ((i : Int), true)) && !(numT i).contains 32 && !(numT i).contains 124 && !(numT i).contains 45) = true := by kernel_rfl
theorem num_at {i : Nat} (h : i < 14) : atoiM (numT i) = ((i : Int), true) ∧ ¬ 32 ∈ numT i ∧ ¬ 124 ∈ numT i ∧ ¬ 45 ∈ numT i := by
  have := List.all_eq_true.1 num14 i (List.mem_range.2 h)
  simp only [Bool.and_eq_true, decide_eq_true_eq, Bool.not_eq_true', List.contains_eq_mem, decide_eq_false_iff_not] at this
  exact ⟨this.1.1.1, this.1.1.2, this.1.2, this.2⟩
def kvs (l : List Nat) (b : Int) : KV := l.map fun (i : Nat) => ((i : Int), b)
theorem updK_new {m : KV} {k v : Int} (h : ∀ x ∈ m, x.1 ≠ k) : updK m k v = m ++ [(k, v)] := by
  rw [updK, if_neg]
  rw [List.any_eq_true]
  rintro ⟨x, hx, e⟩
  exact h x hx (by simpa using e)
theorem readB_nums (b : Int) : ∀ (l : List Nat) (m : KV), (∀ i ∈ l, i < 14) → l.Nodup → (∀ i ∈ l, ∀ x ∈ m, x.1 ≠ (i : Int)) → readB m b (l.map numT) = some (m ++ kvs l b)
  | [], m, _, _, _ => by simp [readB, kvs]
  | i :: l, m, h1, h2, h3 => by
    have hi := (num_at (h1 i (List.mem_cons_self ..))).1
    rw [List.nodup_cons] at h2
    rw [List.map_cons, readB, hi, if_pos rfl, updK_new (h3 i (List.mem_cons_self ..))]
    rw [readB_nums b l _ (fun j hj => h1 j (List.mem_cons_of_mem _ hj)) h2.2 fun j hj x hx => ?_]
    · simp [kvs]
    · rcases List.mem_append.1 hx with q | q
      · exact h3 j (List.mem_cons_of_mem _ hj) x q
      · simp at q; subst q
        intro e
        have : i = j := by have := e; simp at this; omega
        exact h2.1 (this ▸ hj)
theorem blk_split {l : List Nat} (hne : l ≠ []) (h : ∀ i ∈ l, i < 14) : splitM (blkT l) blank = l.map numT :=
  split_join mark_blank _ (by simpa using hne) fun p hp => by
    obtain ⟨i, hi, rfl⟩ := List.mem_map.1 hp
    exact (num_at (h i hi)).2.1
/-- What the first blocks give. -/
def kvB (p : List Int) (a n : Nat) : KV := (List.range n).flatMap fun d => kvs (idxs p (a + d)) ((a + d : Nat) : Int)
theorem kvB_succ (p : List Int) (a n : Nat) : kvB p a (n + 1) = kvs (idxs p a) (a : Int) ++ kvB p (a + 1) n := by
  rw [kvB, List.range_succ_eq_map, List.flatMap_cons, List.flatMap_map]
  rw [kvB, List.flatMap_def, List.flatMap_def]
  congr 2
  refine List.map_congr_left fun d _ => ?_
  simp only [show a + Nat.succ d = a + 1 + d by omega]
theorem readP_blocks {p : List Int} (hp : p.length ≤ 14) : ∀ (n a : Nat) (m : KV), (∀ b, a ≤ b → b < a + n → idxs p b ≠ []) → (∀ x ∈ m, ∃ (i : Nat) (b : Nat), x.1 = (i : Int) ∧ i ∈ idxs p b ∧ b < a) →
    readP m a (((List.range n).map fun d => idxs p (a + d)).map blkT) = some (m ++ kvB p a n)
  | 0, a, m, _, _ => by simp [readP, kvB]
  | n + 1, a, m, h1, h2 => by
    have hb : ∀ i ∈ idxs p a, i < 14 := fun i hi => by have := (mem_idxs.1 hi).1; omega
    rw [List.range_succ_eq_map, List.map_cons, List.map_cons, readP, Nat.add_zero, blk_split (h1 a (by omega) (by omega)) hb]
    rw [readB_nums _ _ m hb ((idxs_lt p a).imp fun h => by omega) fun i hi x hx => ?_]
    · dsimp only
      rw [List.map_map, List.map_map]
      have ih := readP_blocks hp n (a + 1) (m ++ kvs (idxs p a) a) (fun b h3 h4 => h1 b (by omega) (by omega)) fun x hx => ?_
      · rw [kvB_succ, ← List.append_assoc, ← ih, List.map_map]
        rw [show ((a : Int) + 1) = ((a + 1 : Nat) : Int) by omega]
        congr 1
        refine List.map_congr_left fun d _ => ?_
        simp only [Function.comp]
        rw [show a + Nat.succ d = a + 1 + d by omega]
      · rcases List.mem_append.1 hx with q | q
        · obtain ⟨i, b, e, f, g⟩ := h2 x q
          exact ⟨i, b, e, f, by omega⟩
        · obtain ⟨i, hi, rfl⟩ := List.mem_map.1 q
          exact ⟨i, a, rfl, hi, by omega⟩
    · obtain ⟨j, b, e, f, g⟩ := h2 x hx
      intro q
      rw [e] at q
      have : j = i := by omega
      subst this
      have e1 := (mem_idxs.1 f).2
      have e2 := (mem_idxs.1 hi).2
      rw [e1] at e2
      have : b = a := by omega
      omega
theorem kvB_mem {p : List Int} {n : Nat} {x : Int × Int} : x ∈ kvB p 0 n ↔ ∃ i b : Nat, b < n ∧ i ∈ idxs p b ∧ x = ((i : Int), (b : Int)) := by
  simp only [kvB, List.mem_flatMap, List.mem_range, kvs, List.mem_map, Nat.zero_add]
  constructor
  · rintro ⟨b, hb, i, hi, rfl⟩; exact ⟨i, b, hb, hi, rfl⟩
  · rintro ⟨i, b, hb, hi, rfl⟩; exact ⟨b, hb, i, hi, rfl⟩
theorem kvB_length (p : List Int) (n : Nat) : (kvB p 0 n).length = manyM p p.length n := by
  simp only [kvB, List.length_flatMap, manyM, kvs, List.length_map, Nat.zero_add]
  rfl
theorem lookK_kvB {p : List Int} (h : Valid p) {i : Nat} (hi : i < p.length) : lookK (kvB p 0 (countM p)) i = some (gI p i) := by
  have hr := valid_range h hi
  obtain ⟨b, hb⟩ : ∃ b : Nat, gI p i = b := ⟨(gI p i).toNat, by omega⟩
  have hm : ((i : Int), (b : Int)) ∈ kvB p 0 (countM p) := kvB_mem.2 ⟨i, b, by omega, mem_idxs.2 ⟨hi, hb⟩, rfl⟩
  cases hf : (kvB p 0 (countM p)).find? (fun x => decide (x.1 = (i : Int))) with
  | none => exact absurd (List.find?_eq_none.1 hf _ hm) (by simp)
  | some y =>
    have h1 := List.mem_of_find?_eq_some hf
    have h2 : y.1 = i := by simpa using List.find?_some hf
    obtain ⟨j, c, hc, hj, rfl⟩ := kvB_mem.1 h1
    have : j = i := by have := h2; simp at this; omega
    subst this
    rw [lookK, hf, hb]
    have := (mem_idxs.1 hj).2
    rw [hb] at this
    simp [this]
theorem fromK_all {p : List Int} {m : KV} (h : ∀ i, i < p.length → lookK m i = some (gI p i)) : ∀ n, n ≤ p.length → fromK m n = some (p.take n)
  | 0, _ => rfl
  | n + 1, hn => by
    rw [fromK, fromK_all h n (by omega), h n (by omega)]
    dsimp only
    rw [List.take_succ_eq_append_getElem (show n < p.length by omega)]
    simp [gI, show n < p.length by omega]
theorem blk_mem {l : List Nat} (h : ∀ i ∈ l, i < 14) : ¬ 124 ∈ blkT l ∧ ¬ 45 ∈ blkT l :=
  ⟨mem_join _ (by decide) fun p hp => by
    obtain ⟨i, hi, rfl⟩ := List.mem_map.1 hp
    exact (num_at (h i hi)).2.2.1, mem_join _ (by decide) fun p hp => by
    obtain ⟨i, hi, rfl⟩ := List.mem_map.1 hp
    exact (num_at (h i hi)).2.2.2⟩
theorem parse_text {p : List Int} (h : Valid p) (hp : p.length ≤ 14) (hl : (textC p).length ≤ 65536) : parseC (textC p) = (p, 0) := by
  have hc : checkC p = 0 := by rw [checkC_eq, if_neg (by omega), if_pos h]
  by_cases hn : p = []
  · subst hn; decide
  · have hb : ∀ b, ∀ i ∈ idxs p b, i < 14 := fun b i hi => by have := (mem_idxs.1 hi).1; omega
    have ht : textC p = Lib.join ((blocksM p).map blkT) bar := by rw [textC, if_neg hn]
    have hne : textC p ≠ [45] := by
      intro q
      have : ¬ 45 ∈ textC p := by
        rw [ht]
        exact mem_join _ (by decide) fun x hx => by
          obtain ⟨l, hl, rfl⟩ := List.mem_map.1 hx
          obtain ⟨b, _, rfl⟩ := List.mem_map.1 hl
          exact (blk_mem (hb b)).2
      exact this (q ▸ by simp)
    have h1 := valid_one h hn
    have hs : splitM (textC p) bar = (blocksM p).map blkT := by
      rw [ht]
      refine split_join mark_bar _ ?_ fun x hx => ?_
      · intro q
        have := congrArg List.length q
        simp [length_blocksM] at this; omega
      · obtain ⟨l, hl, rfl⟩ := List.mem_map.1 hx
        obtain ⟨b, _, rfl⟩ := List.mem_map.1 hl
        exact (blk_mem (hb b)).1
    have hr := readP_blocks hp (countM p) 0 [] (fun b _ hb => idxs_ne h (by omega)) fun x hx => by cases hx
    simp only [Nat.zero_add, List.nil_append] at hr
    have hlen : (kvB p 0 (countM p)).length = p.length := by rw [kvB_length, many_all h _ (Nat.le_refl _)]
    unfold parseC
    rw [if_neg (by omega), if_neg hne, hs, blocksM]
    rw [show ((0 : Nat) : Int) = 0 from rfl] at hr
    rw [hr]
    dsimp only
    rw [hlen, if_neg (by omega), fromK_all (fun i hi => lookK_kvB h hi) _ (Nat.le_refl _)]
    dsimp only
    rw [List.take_length, if_pos ⟨hc, rfl⟩]
end Go.Proofs
