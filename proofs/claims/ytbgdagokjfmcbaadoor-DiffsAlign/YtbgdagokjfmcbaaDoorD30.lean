import Derived.Test.YtbgdagokjfmcbaaDoorD28
import Derived.Test.YtbgdagokjfmcbaaDoorD13
import Derived.Test.YtbgdagokjfmcbaaDoorD27
namespace Go.Proofs
open Go Go.V
set_option linter.unusedVariables false
set_option linter.unusedSimpArgs false
def FitR (o n : Int) (R : Rs) : Prop := ∀ r ∈ R, ∀ e ∈ r, fitE o n e = true
theorem qP0 (o n : Int) (e : Edg) : fitE o n e = true ↔ (e.1 = -1 ∧ e.2 = -1) ∨ ((0 ≤ e.1 ∧ e.1 < n) ∧ 0 ≤ e.2) ∧ e.2 < o := by
 simp only [fitE, Bool.or_eq_true, Bool.and_eq_true, decide_eq_true_eq]
theorem kbd9 {o n m : Int} {e : Edg} (h : fitE o n e = true) (hm : n ≤ m) : fitE o m e = true := by
 simp only [fitE, Bool.or_eq_true, Bool.and_eq_true, decide_eq_true_eq] at *;omega
theorem kdc9 (pa : Bool) (n O v : Nat) (hn : 1 ≤ n) (hO : 1 ≤ O) : fitE O n (edM pa n O v) = true := by
 have h1 := Nat.mod_lt (v / 4) hn;have h2 := Nat.mod_lt (v / 4 / n) hO;rw [qP0];unfold edM;generalize v / 4 % n = a at *;generalize v / 4 / n % O = b at *;split
 ·left; simp
 ·right
  exact ⟨⟨⟨Int.natCast_nonneg a, Int.ofNat_lt.2 h1⟩, Int.natCast_nonneg b⟩, Int.ofNat_lt.2 h2⟩
theorem qdd9 (N O : Nat) (c : Ch) (hN : 1 ≤ N) (hO : 1 ≤ O) : fitE O N (chE N O c) = true := by
 have h1 := Nat.mod_lt c.tq hN;have h2 := Nat.mod_lt c.out hO;rw [qP0];unfold chE;generalize c.tq % N = a at *;generalize c.out % O = b at *;split
 ·left; simp
 ·right
  exact ⟨⟨⟨Int.natCast_nonneg a, Int.ofNat_lt.2 h1⟩, Int.natCast_nonneg b⟩, Int.ofNat_lt.2 h2⟩
theorem MD.fit (x : MD) : FitR x.O x.n (edgesOf (x.rows x.n)) := by
 rw [x.edges];intro r hr e he;obtain ⟨s, _, rfl⟩ := List.mem_map.1 hr;obtain ⟨i, _, rfl⟩ := List.mem_map.1 he;exact kdc9 _ _ _ _ (by unfold MD.n; omega) (by unfold MD.O; omega)
theorem qbe9 {I : Nat} {R : Rs} (h : zs0 I R) {r : List Edg} (hr : r ∈ R) : r.length = I := by
 obtain ⟨k, hk, rfl⟩ := List.getElem_of_mem hr;have := h k hk;simpa [hk] using this
theorem van9 {I : Nat} {R : Rs} (h : ∀ r ∈ R, r.length = I) : zs0 I R := fun s hs => h _ (by
 rw [List.getD_eq_getElem?_getD, List.getElem?_eq_getElem hs]; exact List.getElem_mem hs)
theorem MD.wide (x : MD) : zs0 x.I (edgesOf (x.rows x.n)) := by
 rw [x.edges];refine van9 fun r hr => ?_;obtain ⟨s, _, rfl⟩ := List.mem_map.1 hr;exact x.row_len s x.I
theorem wr0 {R : Rs} {s : Nat} {e : Edg} (h : e ∈ R.getD s []) : ∃ r ∈ R, e ∈ r := by
 rw [List.getD_eq_getElem?_getD] at h;cases hs : R[s]? with
 | none => rw [hs] at h; simp at h
 | some r => rw [hs] at h; exact ⟨r, List.mem_of_getElem? hs, h⟩
theorem xcE9 (R : Rs) (b : Bool) : (waw9 R b).length = R.length + if b = true then 1 else 0 := by
 unfold waw9; split <;> simp
theorem kcf9 {I : Nat} {R : Rs} (h : zs0 I R) (h0 : 1 ≤ R.length) (b : Bool) : zs0 I (waw9 R b) := by
 unfold waw9;split
 ·refine van9 fun r hr => ?_;rcases List.mem_append.1 hr with q|q
  ·exact qbe9 h q
  ·obtain rfl := List.mem_singleton.1 q;exact h 0 (by omega)
 ·exact h
theorem wcE9 {o : Int} {R : Rs} (h : FitR o R.length R) (b : Bool) : FitR o (waw9 R b).length (waw9 R b) := by
 unfold waw9;split
 ·intro r hr e he;rcases List.mem_append.1 hr with q|q
  ·exact kbd9 (h r q e he) (by simp; omega)
  ·obtain rfl := List.mem_singleton.1 q;obtain ⟨r', hr', he'⟩ := wr0 he;exact kbd9 (h r' hr' e he') (by simp; omega)
 ·exact h
theorem zdd9 {I O : Nat} {R : Rs} (hO : 1 ≤ O) (hR : 1 ≤ R.length) (h : FitR O R.length R) (c : Ch) : FitR O R.length (chM I O R c) := by
 intro r hr e he;rcases List.mem_or_eq_of_mem_set hr with q|q
 ·exact h r q e he
 ·subst q;rcases List.mem_or_eq_of_mem_set he with q|q
  ·obtain ⟨r', hr', he'⟩ := wr0 q;exact h r' hr' e he'
  ·subst q;exact qdd9 _ _ _ hR hO
theorem qcg9 {I O : Nat} {R : Rs} (hO : 1 ≤ O) (hR : 1 ≤ R.length) (h : FitR O R.length R) (L : List Ch) : ∀ k, FitR O R.length (chN I O R L k)
 | 0 => h
 | k + 1 => by
  have hl := zaP9 I O R L k;have := zdd9 (I := I) hO (by omega) (R := chN I O R L k) (by rw [hl]; exact qcg9 hO hR h L k) (L.getD k cD)
  rwa [hl] at this
theorem vcE9 (I : Nat) (R : Rs) (b : Bool) : (kV0 I R b).length = R.length ∨ ((kV0 I R b).length = R.length - 1 ∧ R.length ≠ 1) := by
 unfold kV0;split
 ·rename_i h;right
  refine ⟨by simp, fun q => ?_⟩;simp [qaP9, kG0, q] at h
 ·exact .inl rfl
theorem zcg9 {I : Nat} {R : Rs} (h : zs0 I R) (b : Bool) : zs0 I (kV0 I R b) := by
 unfold kV0;split
 ·exact van9 fun r hr => qbe9 h (List.mem_of_mem_take hr)
 ·exact h
theorem kcE9 {I : Nat} {o : Int} {R : Rs} (hw : zs0 I R) (h : FitR o R.length R) (b : Bool) : FitR o (kV0 I R b).length (kV0 I R b) := by
 unfold kV0;split
 ·rename_i hb;have hu : qaP9 I R = false := by
   cases q : qaP9 I R with
   | false => rfl
   | true => rw [q] at hb; simp at hb
  intro r hr e he;obtain ⟨q, hq, rfl⟩ := List.getElem_of_mem hr;simp only [List.length_take] at hq;rw [List.getElem_take] at he;have hqR : q < R.length := by omega
  obtain ⟨j, hj, rfl⟩ := List.getElem_of_mem he;have hjI : j < I := by
   have := hw q hqR;have e1 : R.getD q [] = R[q] := by simp [hqR]
   rw [e1] at this; omega
  have h1 := h R[q] (List.getElem_mem hqR) R[q][j] (List.getElem_mem hj);have h2 : R[q][j].1 ≠ (R.length : Int) - 1 := fun hh => by
   simp only [qaP9, kG0, Bool.or_eq_false_iff] at hu;have h3 := hu.1.2;rw [List.any_eq_false] at h3;have h4 := h3 q (List.mem_range.2 hqR);simp only [Bool.not_eq_true] at h4;rw [List.any_eq_false] at h4;have h5 := h4 j (List.mem_range.2 hjI);apply h5;have e1 : R.getD q [] = R[q] := by simp [hqR]
   rw [e1];have e2 : R[q].getD j (0, 0) = R[q][j] := by simp [hj]
   rw [e2, hh];simp;omega
  simp only [fitE, Bool.or_eq_true, Bool.and_eq_true, decide_eq_true_eq, List.length_take] at *;omega
 ·exact h
theorem zac9 (R : Rs) : edgesOf (qbq9 R) = R := by simp [edgesOf, qbq9, Function.comp_def]
theorem wak9 (R : Rs) : (qbq9 R).length = R.length := by simp [qbq9]
theorem zA0 {I O : Nat} {l : List Row} (hI : 1 ≤ I ∧ I ≤ 16) (hO : 1 ≤ O ∧ O ≤ 16) (hl : 1 ≤ l.length ∧ l.length ≤ 64) (hw : zs0 I (edgesOf l)) (hf : FitR O l.length (edgesOf l)) : we0 I O l = 0 := by
 refine wcc9 (by omega) (by omega) hl (fun s hs => ?_) fun j hj => ?_
 ·rw [← kd0, hw s (by simpa [edgesOf] using hs)]
 ·rw [← kd0, List.all_eq_true];intro e he;obtain ⟨r, hr, he'⟩ := wr0 he;exact hf r hr e he'
theorem MD.bI (x : MD) : 1 ≤ x.I ∧ x.I ≤ 3 := by unfold MD.I; omega
theorem MD.bO (x : MD) : 1 ≤ x.O ∧ x.O ≤ 3 := by unfold MD.O; omega
theorem MD.bn (x : MD) : 1 ≤ x.n ∧ x.n ≤ 6 := by unfold MD.n; omega
theorem MD.ok (x : MD) : we0 x.I x.O (x.rows x.n) = 0 := by
 have := x.bI; have := x.bO; have := x.bn
 refine zA0 (by omega) (by omega) (by rw [MD.rows_len]; omega) x.wide ?_;rw [MD.rows_len]; exact x.fit
theorem xdd9 {I O : Nat} {R : Rs} (hI : 1 ≤ I ∧ I ≤ 16) (hO : 1 ≤ O ∧ O ≤ 16) (hR : 1 ≤ R.length ∧ R.length ≤ 60) (hw : zs0 I R) (hf : FitR O R.length R) (L : List Ch) (more less : Bool) :
  1 ≤ (vaw9 I O R L more less).length ∧ (vaw9 I O R L more less).length ≤ R.length + 1 ∧ zs0 I (vaw9 I O R L more less) ∧ FitR O (vaw9 I O R L more less).length (vaw9 I O R L more less) := by
 have h1 := xcE9 R more;have hb : (if more = true then 1 else 0) ≤ 1 := by split <;> omega
 have h2 := kcf9 hw hR.1 more;have h3 := wcE9 hf more;unfold vaw9;have h4 := zaP9 I O (waw9 R more) L (min 6 L.length);have h5 := xaP9 (O := O) h2 L (min 6 L.length);have h6 := qcg9 (I := I) hO.1 (by omega) h3 L (min 6 L.length);generalize chN I O (waw9 R more) L (min 6 L.length) = T at *;rw [← h4] at h6;have h7 := vcE9 I T less;exact ⟨by omega, by omega, zcg9 h5 less, kcE9 h5 h6 less⟩
theorem MD.nxt_ok (x : MD) (L : List Ch) (more less : Bool) : 1 ≤ (x.nxt L more less).length ∧ (x.nxt L more less).length ≤ x.n + 1 ∧ zs0 x.I (x.nxt L more less) ∧ FitR x.O (x.nxt L more less).length (x.nxt L more less) := by
 have := x.bI; have := x.bO; have := x.bn
 have hl : (edgesOf (x.rows x.n)).length = x.n := by simp [edgesOf, MD.rows_len]
 have hf := x.fit;have h := xdd9 (I := x.I) (O := x.O) (R := edgesOf (x.rows x.n)) (by omega) (by omega) (by omega) x.wide (by rw [hl]; exact hf) L more less;rw [hl] at h;exact h
theorem MD.nxt_mach (x : MD) (L : List Ch) (more less : Bool) : we0 x.I x.O (qbq9 (x.nxt L more less)) = 0 := by
 have := x.bI; have := x.bO; have := x.bn
 obtain ⟨h1, h2, h3, h4⟩ := x.nxt_ok L more less;refine zA0 (by omega) (by omega) (by rw [wak9]; omega) (by rw [zac9]; exact h3) ?_;rw [zac9, wak9]; exact h4
theorem zbe9 {i o : Int} {l : List Row} {o' : Int} {r : List Row} (hl : we0 i o l = 0) (hr : we0 i o' r = 0) : wt0 i o l i o' r = 0 := by
 rw [wt0, if_neg (by omega), if_neg (by omega), if_neg (by omega)]
set_option maxHeartbeats 0
theorem zP0 {i o : Int} {l : List Row} (h : we0 i o l = 0) : l.length ≤ 1000 ∧ ∀ j, j < l.length → (l.getD j ([], none)).1.length ≤ 1000 := by
 obtain ⟨h1, h2, h3, h4, h5⟩ := xe0 h;exact ⟨by omega, fun j hj => by have := h4 j hj; omega⟩
end Go.Proofs
