import Derived.Test.YtlpjemobbjijdaaGreatDoorL2
import Derived.Test.YtlpjemobbjijdaaGreatDoorV53
namespace Go.Proofs
open Go Go.V
set_option linter.unusedVariables false
set_option linter.unusedSimpArgs false
set_option maxHeartbeats 0
def Wide (i : Int) (l : List Row) : Prop := ∀ s, s < l.length → ((l.getD s ([], none)).1.length : Int) = i
theorem zn0 {i o : Int} {l : List Row} (h : xi0 i o l = 0) : (1 ≤ i ∧ i ≤ 16) ∧ (1 ≤ o ∧ o ≤ 16) ∧ (1 ≤ l.length ∧ l.length ≤ 64) ∧ Wide i l ∧ ∀ j, j < l.length → (l.getD j ([], none)).1.all (fitE o l.length) = true := by
 rw [xi0] at h
 by_cases h1 : 16 < i ∨ 16 < o ∨ 64 < l.length
 ·rw [if_pos h1] at h; omega
 ·by_cases h2 : i < 1 ∨ o < 1 ∨ l.length < 1
  ·rw [if_neg h1, if_pos h2] at h; omega
  ·rw [if_neg h1, if_neg h2] at h
   split at h
   ·rename_i hh
    refine ⟨by omega, by omega, by omega, fun j hj => ?_, fun j hj => ?_⟩
    ·have := hh j hj; rw [xac9, Bool.and_eq_true, decide_eq_true_eq] at this; exact this.1
    ·have := hh j hj; rw [xac9, Bool.and_eq_true] at this; exact this.2
   ·omega
theorem wbZ9 {i o : Int} {l : List Row} (h1 : 1 ≤ i ∧ i ≤ 16) (h2 : 1 ≤ o ∧ o ≤ 16) (h3 : 1 ≤ l.length ∧ l.length ≤ 64) (h4 : Wide i l) (h5 : ∀ j, j < l.length → (l.getD j ([], none)).1.all (fitE o l.length) = true) : xi0 i o l = 0 := by
 rw [xi0, if_neg (by omega), if_neg (by omega), if_pos]
 intro j hj
 rw [xac9, h5 j hj, decide_eq_true (h4 j hj)]; rfl
def edgesOf (l : List Row) : List (List Edg) := l.map (·.1)
theorem kg0 (l : List Row) (k : Nat) : (edgesOf l).getD k [] = (l.getD k ([], none)).1 := by
 rw [edgesOf, List.getD_eq_getElem?_getD, List.getD_eq_getElem?_getD, List.getElem?_map]
 cases l[k]? <;> rfl
set_option maxRecDepth 100000 in
theorem vbZ9 (i o : Int) (l : List Row) (z : Nat) (c : Option Nat) (i' o' : Int) (l' : List Row) (z' : Nat) (c' : Option Nat) (hz : l = [] ∨ z = 1) (hz' : l' = [] ∨ z' = 1) (hl : l.length ≤ 1000000) (hl' : l'.length ≤ 1000000) (hr : ∀ j, j < l.length → (l.getD j ([], none)).1.length ≤ 1000000) (hr' : ∀ j, j < l'.length → (l'.getD j ([], none)).1.length ≤ 1000000) : PC Tryz.prog G0 69 [.agg [.int .i64 i, .int .i64 o, .sl z (vd0 l) c], .agg [.int .i64 i', .int .i64 o', .sl z' (vd0 l') c']] (.bool (decide (i = i' ∧ o = o' ∧ edgesOf l = edgesOf l'))) := by
 refine vb0 1 75 [.tmp 4] Tryz.func69 rfl rfl rfl (by simp) ?_
 intro s ⟨a0, a1, hz⟩
 simp only [Nat.zero_add, Nat.reduceAdd] at a1
 clear hz
 repeat' (first|refine nav ?_|(refine g0_ ?_; refine goD ?_)|with_reducible refine gG ?_ ?_|((with_reducible refine And.intro (fun h => ?_) (fun h => ?_)) <;> try (exfalso; omega))|with_reducible refine andG ?_|simp (disch := try exact discB) only [push_cast, simprocAttr, a0, a1])
 ·rw [decide_eq_false]
  rintro ⟨h1, h2, h3⟩
  have := congrArg List.length h3
  simp [edgesOf] at this
  omega
 ·refine go_loop rfl (fun mz s' H' => ∃ k : Nat, k ≤ l.length ∧ mz = l.length - k ∧ H' = [.row 3 24 [[.int .i64 i, .int .i64 o, .sl z (vd0 l) c]], .row 3 24 [[.int .i64 i', .int .i64 o', .sl z' (vd0 l') c']]] ∧ s' 2 = .ptr 0 0 0 1 ∧ s' 3 = .ptr 1 0 0 1 ∧ s' 5 = .int .i64 k ∧ ∀ j, j < k → (l.getD j ([], none)).1 = (l'.getD j ([], none)).1) (m := l.length) (by first|exact xb0|fail) (Weak.refl _ _) ⟨0, by omega, by omega, rfl, ?_⟩ ?_
  ·simp (disch := try exact discB) only [push_cast, simprocAttr, a0, a1]
   all_goals exact fun j hj => by omega
  ·rintro mz s' H' ⟨k, hk, rfl, rfl, b2, b3, b5, ik⟩
   rcases Nat.lt_or_ge k l.length with hlt|hge
   ·have hlt2 : k < l'.length := by omega
    obtain rfl : z = 1 := by
     rcases hz with h|h
     ·rw [h] at hlt; simp at hlt
     ·exact h
    obtain rfl : z' = 1 := by
     rcases hz' with h|h
     ·rw [h] at hlt2; simp at hlt2
     ·exact h
    have e1 := vq0 l k hlt
    have e2 := vq0 l' k hlt2
    have q1 := hr k hlt
    have q2 := hr' k hlt2
    have hs := kA0 (P := fun j => (l.getD j ([], none)).1 = (l'.getD j ([], none)).1) (k := k) ik
    have hno : (l.getD k ([], none)).1 ≠ (l'.getD k ([], none)).1 → ¬(i = i' ∧ o = o' ∧ edgesOf l = edgesOf l') := fun h hh => h (by rw [← kg0, ← kg0, hh.2.2])
    generalize (l.getD k ([], none)).1 = r at *
    generalize (l'.getD k ([], none)).1 = r' at *
    generalize (l.getD k ([], none)).2 = cc at *
    generalize (l'.getD k ([], none)).2 = cc' at *
    repeat' (first|refine nav ?_|(refine g0_ ?_; refine goD ?_)|with_reducible refine gG ?_ ?_|((with_reducible refine And.intro (fun h => ?_) (fun h => ?_)) <;> try (exfalso; omega))|with_reducible refine andG ?_|simp (disch := try exact discB) only [push_cast, simprocAttr, b2, b3, b5, e1, e2])
    ·rw [decide_eq_false]
     exact hno fun hh => by rw [hh] at h; omega
    ·rename_i hlen
     refine go_loop rfl (fun mz s' H' => ∃ m : Nat, m ≤ r.length ∧ mz = r.length - m ∧ H' = [.row 3 24 [[.int .i64 i, .int .i64 o, .sl 1 (vd0 l) c]], .row 3 24 [[.int .i64 i', .int .i64 o', .sl 1 (vd0 l') c']]] ∧ s' 2 = .ptr 0 0 0 1 ∧ s' 3 = .ptr 1 0 0 1 ∧ s' 5 = .int .i64 k ∧ s' 6 = .int .i64 m ∧ ∀ j, j < m → r.getD j (0, 0) = r'.getD j (0, 0)) (m := r.length) (by first|exact xb0|fail) (Weak.refl _ _) ⟨0, by omega, by omega, rfl, ?_⟩ ?_
     ·simp (disch := try exact discB) only [push_cast, simprocAttr, b2, b3, b5, e1, e2]
      all_goals exact fun j hj => by omega
     ·rintro mz s' H' ⟨m, hm, rfl, rfl, b2, b3, b5, b6, im⟩
      rcases Nat.lt_or_ge m r.length with hlt3|hge3
      ·have hlt4 : m < r'.length := by omega
       have e3 := kl0 r m hlt3
       have e4 := kl0 r' m hlt4
       have hs3 := kA0 (P := fun j => r.getD j (0, 0) = r'.getD j (0, 0)) (k := m) im
       have hno3 : r.getD m (0, 0) ≠ r'.getD m (0, 0) → ¬(i = i' ∧ o = o' ∧ edgesOf l = edgesOf l') := fun h => hno fun hh => h (by rw [hh])
       generalize r.getD m (0, 0) = x at *
       generalize r'.getD m (0, 0) = w at *
       obtain ⟨x1, x2⟩ := x
       obtain ⟨w1, w2⟩ := w
       simp only [eA] at e3 e4
       simp only [Prod.mk.injEq, Ne] at hs3 hno3
       repeat' (first|refine nav ?_|(refine g0_ ?_; refine goD ?_)|with_reducible refine gG ?_ ?_|((with_reducible refine And.intro (fun h => ?_) (fun h => ?_)) <;> try (exfalso; omega))|with_reducible refine andG ?_|simp (disch := try exact discB) only [push_cast, simprocAttr, b2, b3, b5, b6, e1, e2, e3, e4])
       ·rw [decide_eq_false]
        exact hno3 (by omega)
       ·refine wa0 (r.length - (m + 1)) (by omega) (by first|exact xb0|fail) ⟨m + 1, by omega, rfl, rfl, ?_⟩
        simp (disch := try exact discB) only [push_cast, simprocAttr, b2, b3, b5, b6, e1, e2, e3, e4]
        exact hs3 (by omega)
      ·obtain rfl : m = r.length := by omega
       repeat' (first|refine nav ?_|(refine g0_ ?_; refine goD ?_)|with_reducible refine gG ?_ ?_|((with_reducible refine And.intro (fun h => ?_) (fun h => ?_)) <;> try (exfalso; omega))|with_reducible refine andG ?_|simp (disch := try exact discB) only [push_cast, simprocAttr, b2, b3, b5, b6, e1, e2])
       refine wa0 (l.length - (k + 1)) (by omega) (by first|exact xb0|fail) ⟨k + 1, by omega, rfl, rfl, ?_⟩
       simp (disch := try exact discB) only [push_cast, simprocAttr, b2, b3, b5, b6, e1, e2]
       exact hs (wC0 (0, 0) (by omega) im)
   ·obtain rfl : k = l.length := by omega
    repeat' (first|refine nav ?_|(refine g0_ ?_; refine goD ?_)|with_reducible refine gG ?_ ?_|((with_reducible refine And.intro (fun h => ?_) (fun h => ?_)) <;> try (exfalso; omega))|with_reducible refine andG ?_|simp (disch := try exact discB) only [push_cast, simprocAttr, b2, b3, b5])
    rw [decide_eq_true]
    refine ⟨by omega, by omega, wC0 [] (by simp [edgesOf]; omega) fun j hj => ?_⟩
    rw [kg0, kg0]
    exact ik j (by simpa [edgesOf] using hj)
def u16s (es : List Nat) : List (List AV) := es.map fun (e : Nat) => [AV.int .u16 (e : Int)]
theorem xbj9 (es : List Nat) : (u16s es).length = es.length := by simp [u16s]
theorem zau9 (p : Nat → Bool) (es : List Nat) : idsE p (u16s es) = true := xy0 _ _ fun x => by simp [idsL, AV.ids]
theorem vcw9 (p : Nat → Bool) (es : List Nat) : ((u16s es).all fun e => e.all fun x => AV.ids p x) = true := wq0 (zau9 p es)
attribute [simp] zau9
attribute [push_cast] vcw9 xbj9 zau9
structure MD where
 st : Nat
 inp : Nat
 ou : Nat
 pa : Bool
 es : List Nat
def MD.n (x : MD) : Nat := 1 + x.st % 6
def MD.I (x : MD) : Nat := 1 + x.inp % 3
def MD.O (x : MD) : Nat := 1 + x.ou % 3
def edM (pa : Bool) (n O v : Nat) : Edg := if pa = true ∧ v % 4 = 3 then (-1, -1) else (((v / 4 % n : Nat) : Int), ((v / 4 / n % O : Nat) : Int))
def MD.row (x : MD) (s k : Nat) : List Edg := (List.range k).map fun i => edM x.pa x.n x.O (x.es.getD (s * x.I + i) 0)
def MD.rows (x : MD) (k : Nat) : List Row := (List.range k).map fun s => (x.row s x.I, none)
structure MD.Ok (x : MD) : Prop where
 st : x.st < 256
 inp : x.inp < 256
 ou : x.ou < 256
 es : ∀ e ∈ x.es, e < 65536
def mdC (x : MD) (z : Nat) (c : Option Nat) : List AV := [.int .u8 x.st, .int .u8 x.inp, .int .u8 x.ou, .bool x.pa, .sl z (u16s x.es) c]
theorem MD.row_len (x : MD) (s k : Nat) : (x.row s k).length = k := by simp [MD.row]
theorem MD.rows_len (x : MD) (k : Nat) : (x.rows k).length = k := by simp [MD.rows]
theorem fitE_iff {o n : Int} {e : Edg} : fitE o n e = true ↔ e = (-1, -1) ∨ (0 ≤ e.1 ∧ e.1 < n ∧ 0 ≤ e.2 ∧ e.2 < o) := by
 obtain ⟨a, b⟩ := e
 simp only [fitE, Bool.or_eq_true, Bool.and_eq_true, decide_eq_true_eq, Prod.mk.injEq, and_assoc]
theorem qcU9 (pa : Bool) (n O v : Nat) (hn : 1 ≤ n) (hO : 1 ≤ O) : fitE O n (edM pa n O v) = true := by
 have h1 := Nat.mod_lt (v / 4) hn
 have h2 := Nat.mod_lt (v / 4 / n) hO
 rw [fitE_iff]
 unfold edM
 generalize v / 4 % n = a at *
 generalize v / 4 / n % O = b at *
 split
 ·exact .inl rfl
 ·exact .inr ⟨Int.natCast_nonneg a, Int.ofNat_lt.2 h1, Int.natCast_nonneg b, Int.ofNat_lt.2 h2⟩
theorem MD.bI (x : MD) : 1 ≤ x.I ∧ x.I ≤ 3 := by unfold MD.I; omega
theorem MD.bO (x : MD) : 1 ≤ x.O ∧ x.O ≤ 3 := by unfold MD.O; omega
theorem MD.bn (x : MD) : 1 ≤ x.n ∧ x.n ≤ 6 := by unfold MD.n; omega
theorem MD.edges (x : MD) : edgesOf (x.rows x.n) = (List.range x.n).map fun s => x.row s x.I := by simp [edgesOf, MD.rows]
theorem MD.row_at (x : MD) {j : Nat} (hj : j < x.n) : (x.rows x.n).getD j ([], none) = (x.row j x.I, none) := by simp [MD.rows, hj]
theorem MD.ok (x : MD) : xi0 x.I x.O (x.rows x.n) = 0 := by
 have := x.bI; have := x.bO; have := x.bn
 refine wbZ9 (by omega) (by omega) (by rw [MD.rows_len]; omega) (fun s hs => ?_) fun j hj => ?_
 ·rw [MD.rows_len] at hs
  rw [x.row_at hs, x.row_len]
 ·rw [MD.rows_len] at hj ⊢
  rw [x.row_at hj, List.all_eq_true]
  intro e he
  obtain ⟨i, _, rfl⟩ := List.mem_map.1 he
  exact qcU9 _ _ _ _ (by omega) (by omega)
end Go.Proofs
