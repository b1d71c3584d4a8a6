import Derived.Test.YtbgdagokjfmcbaaDoorD57
import Derived.Test.YtbgdagokjfmcbaaDoorD53
import Derived.Test.YtbgdagokjfmcbaaDoorD30
namespace Go.Proofs
open Go Go.V
set_option linter.unusedVariables false
set_option linter.unusedSimpArgs false
theorem noEdit {la lb : List Row} {S I s i : Nat} (hs : s < S) (hi : i < I) (h : ¬ (diffEds la lb S I).any (isAt s i) = true) : edgeM lb s i = edgeM la s i := by
 rw [List.any_eq_true] at h
 by_cases hd : differs (diffAt la lb s i) = true
 ·exact absurd ⟨_, List.mem_flatMap.2 ⟨s, List.mem_range.2 hs, List.mem_filter.2 ⟨List.mem_map.2 ⟨i, List.mem_range.2 hi, rfl⟩, hd⟩⟩, by simp [isAt, diffAt]⟩ h
 ·simp [differs, diffAt] at hd
  exact (Prod.ext (of_decide_eq_true hd.1) (of_decide_eq_true hd.2)).symm
theorem nextS_edge {la : List Row} {s y : Int} (h : 0 ≤ s ∧ s < la.length) : nextS la s y = edgeM la s y := by
 rw [nextS, if_neg (by omega), edgeM, if_neg (by omega)]
theorem toAt_next {la : List Row} {s y : Int} (h : 0 ≤ s) : toAt la s y = (nextS la s y).1 := by rw [nextS, if_neg (by omega)]; rfl
theorem nextS_none (l : List Row) (y : Int) : nextS l (-1) y = (-1, -1) := by rw [nextS, if_pos (by omega)]
theorem runS_none (la lb : List Row) : ∀ w, runS la (-1) w = runS lb (-1) w
 | [] => rfl
 | y :: w => by rw [runS, runS, nextS_none, nextS_none, runS_none la lb w]
theorem run_same {I S : Nat} {o o' : Int} {la lb : List Row} (hm : machOk I o la = 0) (hn : machOk I o' lb = 0) (hS : la.length ≤ S) : ∀ (w : List Int) (s : Int), (0 ≤ s ∧ s < la.length ∧ s < lb.length) → Syms I w → meetsW la (diffEds la lb S I) s w = false → runS la s w = runS lb s w
 | [], s, _, _, _ => rfl
 | y :: w, s, hs, hw, h => by
  have hy := hw y (List.mem_cons_self ..)
  have hw' : Syms I w := fun x hx => hw x (List.mem_cons_of_mem _ hx)
  obtain ⟨q, rfl⟩ : ∃ q : Nat, s = q := ⟨s.toNat, by omega⟩
  obtain ⟨i, rfl⟩ : ∃ i : Nat, y = i := ⟨y.toNat, by omega⟩
  rw [meetsW] at h
  by_cases h1 : (diffEds la lb S I).any (isAt q i) = true
  ·rw [if_pos h1] at h; cases h
  rw [if_neg h1, toAt_next (by omega)] at h
  have he := noEdit (s := q) (i := i) (by omega) (by omega) h1
  have ha := nextS_edge (la := la) (s := q) (y := i) (by omega)
  have hb := nextS_edge (la := lb) (s := q) (y := i) (by omega)
  rw [he, ← ha] at hb
  have hr := nextS_range hm (s := q) (y := i) (by omega) hy
  have hr' := nextS_range hn (s := q) (y := i) (by omega) hy
  rw [hb] at hr'
  rw [runS, runS, hb]
  generalize nextS la q i = e at *
  by_cases h2 : e.1 = -1
  ·rw [h2, runS_none la lb w]
  ·rw [if_neg h2] at h
   rw [run_same hm hn hS w e.1 (by omega) hw' h]
def lowW (ws : List (List Nat)) (n k : Nat) : Wds := (ws.take k).map fun b => wordM b n 8
theorem lowW_succ (ws : List (List Nat)) (n k : Nat) (h : k < ws.length) : lowW ws n (k + 1) = lowW ws n k ++ [wordM (ws.getD k []) n 8] := by
 rw [lowW, List.take_succ_eq_append_getElem h, List.map_append, lowW]; simp [h]
theorem length_lowW (ws : List (List Nat)) (n k : Nat) : (lowW ws n k).length = min k ws.length := by simp [lowW]
structure Fine (I : Nat) (l : Wds) : Prop where
 n : l.length ≤ 12
 w : ∀ x ∈ l, Syms I x ∧ x.length ≤ 8
theorem lowW_fine (ws : List (List Nat)) (n k : Nat) (hn : 1 ≤ n) (hk : k ≤ 12) : Fine n (lowW ws n k) := by
 refine ⟨by rw [length_lowW]; omega, fun x hx => ?_⟩
 obtain ⟨b, _, rfl⟩ := List.mem_map.1 hx
 exact ⟨wordM_syms b n 8 hn, by rw [length_wordM]; omega⟩
theorem Fine.sort {I : Nat} {l : Wds} (h : Fine I l) : Fine I (sortM l) ∧ SortW (sortM l) := by
 obtain ⟨h1, h2, h3⟩ := sortM_spec l
 exact ⟨⟨Nat.le_trans h3 h.n, fun x hx => h.w x ((h2 x).1 hx)⟩, h1⟩
theorem errW_of {n : Int} : ∀ {l : List Wd}, (∀ w ∈ l, checkM w.1 n = 0) → errW n l = 0
 | [], _ => rfl
 | v :: l, h => by
  have h1 := h v (List.mem_cons_self ..)
  rw [errW, if_neg (by omega), errW_of fun w hw => h w (List.mem_cons_of_mem _ hw)]
theorem checkM_of {I : Nat} {w : List Int} (hI : 1 ≤ I ∧ I ≤ 16) (h : Syms I w) (hl : w.length ≤ 8) : checkM w I = 0 := by
 have : w.any (badI I) = false := by
  rw [List.any_eq_false]
  intro x hx
  have := h x hx
  simp [badI]; omega
 rw [checkM, if_neg (by omega), if_neg (by omega), this]; rfl
theorem sum_le8 : ∀ (l : List Wd), (∀ w ∈ l, w.1.length ≤ 8) → sumW l ≤ 8 * l.length
 | [], _ => by simp [sumW]
 | v :: l, h => by
  have h1 := h v (List.mem_cons_self ..)
  have h2 := sum_le8 l fun w hw => h w (List.mem_cons_of_mem _ hw)
  simp only [sumW, List.map_cons, List.sum_cons, List.length_cons] at *
  omega
theorem tcheck_fine {I : Nat} {l : Wds} (hI : 1 ≤ I ∧ I ≤ 16) (h : Fine I l) (hs : SortW l) : tcheckM (wdsN l) I = 0 := by
 have hmem : ∀ w ∈ wdsN l, Syms I w.1 ∧ w.1.length ≤ 8 := fun w hw => by
  obtain ⟨x, hx, rfl⟩ := List.mem_map.1 hw
  exact h.w x hx
 have hl := h.n
 have hlen := length_wdsN l
 have e1 : looseM (wdsN l) I = 0 := by
  rw [looseM, if_neg (by omega), if_neg (by omega)]
  exact errW_of fun w hw => checkM_of hI (hmem w hw).1 (hmem w hw).2
 have e2 : aheadM (wdsN l) = true := aheadM_yes fun k hk => by
  have := List.pairwise_iff_getElem.1 hs k (k + 1) (by omega) (by omega) (by omega)
  rw [← getD_wordsOf, ← getD_wordsOf, wordsOf_wdsN]
  simpa [show k < l.length by omega, show k + 1 < l.length by omega] using this
 have e3 := sum_le8 (wdsN l) fun w hw => (hmem w hw).2
 rw [tcheckM, if_neg (by omega), e2, if_neg (by simp), if_neg (by omega)]
theorem two_zero (I : Nat) (hI : 1 ≤ I ∧ I ≤ 16) : tcheckM [([0], some 1), ([0], some 1)] I = 1 := by
 have hc : checkM [0] I = 0 := checkM_of hI (fun x hx => by simp at hx; omega) (by simp)
 have e1 : looseM [([0], some 1), ([0], some 1)] I = 0 := by
  rw [looseM, if_neg (by simp; omega), if_neg (by omega)]
  exact errW_of fun w hw => by
   simp at hw; rw [hw]; exact hc
 have e2 : aheadM [([0], some 1), ([0], some 1)] = false := aheadM_no (k := 0) (by simp) (by simp [cmpM, lexI])
 rw [tcheckM, if_neg (by omega), if_pos e2]
theorem aff_diff {I : Nat} {o o' : Int} {la lb : List Row} (hm : machOk I o la = 0) (hn : machOk I o' lb = 0) (l : List Wd) : affR I o la (diffM I o la o' lb) l = if tcheckM l I ≠ 0 then ([], tcheckM l I) else (affM la (diffM I o la o' lb).ed l, 0) := by
 have e : fitErr I o la (diffM I o la o' lb) = 0 := by
  rw [fitErr, if_neg (by omega), diffM_ok hm hn, if_neg (by simp), fitsM]
  simp [diffM]
 rw [affR, if_neg (by omega)]
theorem aff_new {I : Nat} {o : Int} {la lb : List Row} (hm : machOk I o la = 0) (hn : machOk I o lb = 0) : (affR I o lb (diffM I o la o lb) []).2 = if la.length = lb.length then 0 else 6 := by
 have hI := (machOk_zero hm).1
 have e : fitErr I o lb (diffM I o la o lb) = if la.length = lb.length then 0 else 6 := by
  rw [fitErr, if_neg (by omega), diffM_ok hm hn, if_neg (by simp), fitsM]
  by_cases h : la.length = lb.length <;> simp [diffM, h]
  omega
 have e2 : tcheckM [] I = 0 := by
  have e1 : looseM [] I = 0 := by
   rw [looseM, if_neg (by simp; omega), if_neg (by omega)]; rfl
  rw [tcheckM, if_neg (by omega)]
  simp [aheadM, sumW]
 rw [affR, e]
 by_cases h : la.length = lb.length
 ·simp [h, e2]
 ·simp [h]
theorem aff_new0 {I : Nat} {o : Int} {la lb : List Row} (hm : machOk I o la = 0) (hn : machOk I o lb = 0) : (affR I o lb (diffM I o la o lb) []).1 = [] := by
 unfold affR
 split
 ·rfl
 ·split
  ·rfl
  ·rfl
def wantM (la : List Row) (ed : List Ed) (L : Wds) : Wds := L.filter (meetsW la ed 0)
theorem wantM_succ (la : List Row) (ed : List Ed) (L : Wds) (k : Nat) (h : k < L.length) : wantM la ed (L.take (k + 1)) = wantM la ed (L.take k) ++ if meetsW la ed 0 (L.getD k []) = true then [L.getD k []] else [] := by
 rw [wantM, List.take_succ_eq_append_getElem h, List.filter_append, wantM]
 congr 1
 have : L.getD k [] = L[k] := by simp [h]
 rw [this]
 simp only [List.filter_cons, List.filter_nil]
theorem length_wantM (la : List Row) (ed : List Ed) (L : Wds) : (wantM la ed L).length ≤ L.length := List.length_filter_le _ _
theorem want_aff (la : List Row) (ed : List Ed) (L : Wds) : wordsOf (affM la ed (wdsN L)) = wantM la ed L := by
 simp only [wordsOf, affM, wdsN, wantM, List.filter_map, List.map_map]
 simp [Function.comp_def]
end Go.Proofs
