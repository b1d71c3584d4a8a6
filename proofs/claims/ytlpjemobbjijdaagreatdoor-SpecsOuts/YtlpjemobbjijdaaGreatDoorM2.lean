import Derived.Test.YtlpjemobbjijdaaGreatDoorL2
import Derived.Test.YtlpjemobbjijdaaGreatDoorV51
namespace Go.Proofs
open Go Go.V
set_option linter.unusedVariables false
set_option linter.unusedSimpArgs false
set_option maxHeartbeats 0
def Wide (i : Int) (l : List Row) : Prop := ∀ s, s < l.length → ((l.getD s ([], none)).1.length : Int) = i
theorem xg0 {i o : Int} {l : List Row} (h : qk0 i o l = 0) : (1 ≤ i ∧ i ≤ 16) ∧ (1 ≤ o ∧ o ≤ 16) ∧ (1 ≤ l.length ∧ l.length ≤ 64) ∧ Wide i l ∧ ∀ j, j < l.length → (l.getD j ([], none)).1.all (fitE o l.length) = true := by
 rw [qk0] at h
 by_cases h1 : 16 < i ∨ 16 < o ∨ 64 < l.length
 ·rw [if_pos h1] at h; omega
 ·by_cases h2 : i < 1 ∨ o < 1 ∨ l.length < 1
  ·rw [if_neg h1, if_pos h2] at h; omega
  ·rw [if_neg h1, if_neg h2] at h
   split at h
   ·rename_i hh
    refine ⟨by omega, by omega, by omega, fun j hj => ?_, fun j hj => ?_⟩
    ·have := hh j hj; rw [waQ9, Bool.and_eq_true, decide_eq_true_eq] at this; exact this.1
    ·have := hh j hj; rw [waQ9, Bool.and_eq_true] at this; exact this.2
   ·omega
theorem qbR9 {i o : Int} {l : List Row} (h1 : 1 ≤ i ∧ i ≤ 16) (h2 : 1 ≤ o ∧ o ≤ 16) (h3 : 1 ≤ l.length ∧ l.length ≤ 64) (h4 : Wide i l) (h5 : ∀ j, j < l.length → (l.getD j ([], none)).1.all (fitE o l.length) = true) : qk0 i o l = 0 := by
 rw [qk0, if_neg (by omega), if_neg (by omega), if_pos]
 intro j hj
 rw [waQ9, h5 j hj, decide_eq_true (h4 j hj)]; rfl
def edgesOf (l : List Row) : List (List Edg) := l.map (·.1)
theorem qx0 (l : List Row) (k : Nat) : (edgesOf l).getD k [] = (l.getD k ([], none)).1 := by
 rw [edgesOf, List.getD_eq_getElem?_getD, List.getD_eq_getElem?_getD, List.getElem?_map]
 cases l[k]? <;> rfl
def u16s (es : List Nat) : List (List AV) := es.map fun (e : Nat) => [AV.int .u16 (e : Int)]
theorem qba9 (es : List Nat) : (u16s es).length = es.length := by simp [u16s]
theorem zbR9 (es : List Nat) (k : Nat) (h : k < es.length) : (u16s es).getD k [] = [.int .u16 (es.getD k 0 : Nat)] := by simp [u16s, h]
theorem kS0 (p : Nat → Bool) (es : List Nat) : idsE p (u16s es) = true := zt0 _ _ fun x => by simp [idsL, AV.ids]
theorem zcm9 (p : Nat → Bool) (es : List Nat) : ((u16s es).all fun e => e.all fun x => AV.ids p x) = true := qp0 (kS0 p es)
attribute [simp] kS0
attribute [push_cast] zcm9 qba9 kS0
structure MD where
 st : Nat
 inp : Nat
 ou : Nat
 pa : Bool
 es : List Nat
def MD.n (x : MD) : Nat := 1 + x.st % 6
def MD.I (x : MD) : Nat := 1 + x.inp % 3
def MD.O (x : MD) : Nat := 1 + x.ou % 3
def edM (pa : Bool) (n O v : Nat) : Edg := if pa = true ∧ v % 4 = 3 then (-1, -1) else (((v / 4 % n : Nat) : Int), ((v / 4 / n % O : Nat) : Int))
def MD.row (x : MD) (s k : Nat) : List Edg := (List.range k).map fun i => edM x.pa x.n x.O (x.es.getD (s * x.I + i) 0)
def MD.rows (x : MD) (k : Nat) : List Row := (List.range k).map fun s => (x.row s x.I, none)
structure MD.Ok (x : MD) : Prop where
 st : x.st < 256
 inp : x.inp < 256
 ou : x.ou < 256
 es : ∀ e ∈ x.es, e < 65536
def mdC (x : MD) (z : Nat) (c : Option Nat) : List AV := [.int .u8 x.st, .int .u8 x.inp, .int .u8 x.ou, .bool x.pa, .sl z (u16s x.es) c]
theorem vae9 (a m : Nat) : (a : Int).tmod (m : Int) = ((a % m : Nat) : Int) := rfl
theorem zbk9 (a m : Nat) : (a : Int).tdiv (m : Int) = ((a / m : Nat) : Int) := rfl
theorem zba9 (a m : Nat) (hm : m < 1000000) (h0 : 0 < m) : IntKind.i64.wrap (1 + IntKind.i64.wrap ((a : Int).tmod (m : Int))) = ((1 + a % m : Nat) : Int) := by
 have := Nat.mod_lt a h0
 rw [vae9]
 generalize a % m = r at *
 rw [wbQ9 (r : Int) (by omega) (by omega), wbQ9 _ (by omega) (by omega)]
 omega
theorem MD.row_succ (x : MD) (s k : Nat) : x.row s (k + 1) = x.row s k ++ [edM x.pa x.n x.O (x.es.getD (s * x.I + k) 0)] := by
 rw [MD.row, List.range_succ, List.map_append]; rfl
theorem MD.rows_succ (x : MD) (k : Nat) : x.rows (k + 1) = x.rows k ++ [(x.row k x.I, none)] := by
 rw [MD.rows, List.range_succ, List.map_append]; rfl
theorem MD.row_len (x : MD) (s k : Nat) : (x.row s k).length = k := by simp [MD.row]
theorem MD.rows_len (x : MD) (k : Nat) : (x.rows k).length = k := by simp [MD.rows]
theorem xbR9 {α : Type} {p : α → Prop} {l : List α} {d : α} (h : ∀ x ∈ l, p x) (hd : p d) (k : Nat) : p (l.getD k d) := by
 rw [List.getD_eq_getElem?_getD]
 cases hk : l[k]? with
 | none => exact hd
 | some x => exact h x (List.mem_of_getElem? hk)
set_option maxRecDepth 100000 in
theorem mOf9 (x : MD) (z : Nat) (c : Option Nat) (hx : x.Ok) (hz : x.es = [] ∨ z = 1) : PC Tryz.prog G0 62 [.agg (mdC x z c)] (mA x.I x.O (x.rows x.n) none) := by
 obtain ⟨h1, h2, h3, h4⟩ := hx
 have fn : IntKind.i64.wrap (1 + IntKind.i64.wrap ((x.st : Int).tmod 6)) = (x.n : Int) := zba9 x.st 6 (by omega) (by omega)
 have fI : IntKind.i64.wrap (1 + IntKind.i64.wrap ((x.inp : Int).tmod 3)) = (x.I : Int) := zba9 x.inp 3 (by omega) (by omega)
 have fO : IntKind.i64.wrap (1 + IntKind.i64.wrap ((x.ou : Int).tmod 3)) = (x.O : Int) := zba9 x.ou 3 (by omega) (by omega)
 have bn : 1 ≤ x.n ∧ x.n ≤ 6 := by unfold MD.n; omega
 have bI : 1 ≤ x.I ∧ x.I ≤ 3 := by unfold MD.I; omega
 have bO : 1 ≤ x.O ∧ x.O ≤ 3 := by unfold MD.O; omega
 have qn : (x.n : Int) ≠ 0 := by omega
 have qO : (x.O : Int) ≠ 0 := by omega
 unfold mdC mA
 refine qd0 1 87 [.cell 2 24] Tryz.func62 rfl rfl rfl (by simp) ?_
 intro s ⟨a0, hz⟩
 clear hz
 repeat' (first|refine nav ?_|(refine g0_ ?_; refine goD ?_)|(with_reducible refine gG ?_ ?_)|((with_reducible refine And.intro (fun h => ?_) (fun h => ?_)) <;> try (exfalso; omega))|(with_reducible refine andG ?_)|fail|simp (disch := (first|exact discB|fail)) only [push_cast, simprocAttr, a0, fn, fI, fO])
 refine go_loop rfl (fun mz s' H' => ∃ s : Nat, s ≤ x.n ∧ mz = x.n - s ∧ H' = [.row 5 44 [[.int .u8 x.st, .int .u8 x.inp, .int .u8 x.ou, .bool x.pa, .sl z (u16s x.es) c]], .row 3 24 [[.int .i64 0, .int .i64 0, .sl 0 [] (some 0)]], .row 3 24 [[.int .i64 x.I, .int .i64 x.O, .own 3 s s none]], .row 1 50 (qe0 (x.rows s))] ∧ s' 1 = .ptr 0 0 0 1 ∧ s' 2 = .ptr 1 0 0 1 ∧ s' 3 = .int .i64 x.n ∧ s' 4 = .ptr 2 0 0 1 ∧ s' 5 = .int .i64 s) (m := x.n) (by first|exact kb0|fail) (vk0 (b := 2) (i := 0) (j := 2) (sz := 1) (ty := 50) rfl rfl rfl) ⟨0, by omega, by omega, (by first|rfl|simp [MD.rows, qe0, List.range_zero, List.map_nil]), ?_⟩ ?_
 ·simp (disch := (first|exact discB|fail)) only [push_cast, simprocAttr, a0, fn, fI, fO]
 ·rintro mz s' H' ⟨s, hs, rfl, rfl, b1, b2, b3, b4, b5⟩
  have e0 : (qe0 (x.rows s)).length = s := by simp [qe0, MD.rows]
  rcases Nat.lt_or_ge s x.n with hlt|hge
  ·have e1 := x.rows_succ s
   repeat' (first|refine nav ?_|(refine g0_ ?_; refine goD ?_)|(with_reducible refine gG ?_ ?_)|((with_reducible refine And.intro (fun h => ?_) (fun h => ?_)) <;> try (exfalso; omega))|(with_reducible refine andG ?_)|fail|simp (disch := (first|exact discB|fail)) only [push_cast, simprocAttr, b1, b2, b3, b4, b5, e0])
   refine qA0 (by first|exact kb0|fail) (vF0 (t := 6) (sz := 2) (ty := 70) rfl) ?_
   generalize x.rows s = rs at *
   obtain ⟨b, hb⟩ : ∃ b : Nat, b = s * x.I := ⟨_, rfl⟩
   have hb2 : b ≤ 18 := by
    rw [hb]; exact Nat.le_trans (Nat.mul_le_mul (show s ≤ 6 by omega) bI.2) (by omega)
   have fb : (s : Int) * (x.I : Int) = (b : Int) := by rw [hb]; exact (Int.natCast_mul s x.I).symm
   refine go_loop rfl (fun mz s' H' => ∃ i : Nat, i ≤ x.I ∧ mz = x.I - i ∧ H' = [.row 5 44 [[.int .u8 x.st, .int .u8 x.inp, .int .u8 x.ou, .bool x.pa, .sl z (u16s x.es) c]], .row 3 24 [[.int .i64 0, .int .i64 0, .sl 0 [] (some 0)]], .row 3 24 [[.int .i64 x.I, .int .i64 x.O, .own 3 s s none]], .row 1 50 (qe0 rs), .row 2 70 (rowA (x.row s i))] ∧ s' 1 = .ptr 0 0 0 1 ∧ s' 2 = .ptr 1 0 0 1 ∧ s' 3 = .int .i64 x.n ∧ s' 4 = .ptr 2 0 0 1 ∧ s' 5 = .int .i64 s ∧ s' 6 = .own 4 i i none ∧ s' 7 = .int .i64 i) (m := x.I) (by first|exact kb0|fail) (Weak.refl _ _) ⟨0, by omega, by omega, (by first|rfl|simp [MD.row, rowA, List.range_zero, List.map_nil]), ?_⟩ ?_
   ·simp (disch := (first|exact discB|fail)) only [push_cast, simprocAttr, b1, b2, b3, b4, b5, e0]
   ·rintro mz s' H' ⟨i, hi, rfl, rfl, b1, b2, b3, b4, b5, b6, b7⟩
    have e2 : (rowA (x.row s i)).length = i := by rw [zi0, MD.row_len]
    rcases Nat.lt_or_ge i x.I with hlt2|hge2
    ·have e3 := x.row_succ s i
     rw [← hb] at e3
     have e4 := fun h => zbR9 x.es (b + i) h
     have hv : x.es.getD (b + i) 0 < 65536 := xbR9 (p := fun e => e < 65536) h4 (by omega) _
     have hv0 : x.es.length ≤ b + i → x.es.getD (b + i) 0 = 0 := fun h => by simp [h]
     generalize x.row s i = ro at *
     generalize x.es.getD (b + i) 0 = v at *
     obtain ⟨m, hm⟩ : ∃ m : Nat, m = v % 4 := ⟨_, rfl⟩
     obtain ⟨p, hp⟩ : ∃ p : Nat, p = v / 4 % x.n := ⟨_, rfl⟩
     obtain ⟨q, hq⟩ : ∃ q : Nat, q = v / 4 / x.n % x.O := ⟨_, rfl⟩
     have hed : edM x.pa x.n x.O v = if x.pa = true ∧ m = 3 then (-1, -1) else ((p : Int), (q : Int)) := by rw [edM, hm, hp, hq]
     rw [hed] at e3
     have f1 : (v : Int).tmod 4 = (m : Int) := by rw [hm]; exact vae9 v 4
     have f2 : (v : Int).tdiv 4 = ((v / 4 : Nat) : Int) := zbk9 v 4
     have b4' : v / 4 ≤ 65536 := by omega
     generalize v / 4 = v4 at *
     have f3 : (v4 : Int).tmod x.n = (p : Int) := by rw [hp]; exact vae9 _ _
     have f4 : (v4 : Int).tdiv x.n = ((v4 / x.n : Nat) : Int) := zbk9 _ _
     have b5' : v4 / x.n ≤ 65536 := Nat.le_trans (Nat.div_le_self _ _) b4'
     generalize v4 / x.n = v5 at *
     have f5 : (v5 : Int).tmod x.O = (q : Int) := by rw [hq]; exact vae9 _ _
     have fi : ((b : Int) + i).toNat = b + i := by omega
     rcases Nat.lt_or_ge (b + i) x.es.length with hk|hk
     ·have e4 := e4 hk
      obtain rfl := hz.resolve_left (by intro h; rw [h] at hk; simp at hk)
      cases hpa : x.pa with
      | false =>
       rw [hpa] at e3
       repeat' (first|refine nav ?_|(refine g0_ ?_; refine goD ?_)|(with_reducible refine gG ?_ ?_)|((with_reducible refine And.intro (fun h => ?_) (fun h => ?_)) <;> try (exfalso; omega))|(with_reducible refine andG ?_)|fail|simp (disch := (first|exact discB|fail)) only [push_cast, simprocAttr, b1, b2, b3, b4, b5, b6, b7, e2, fb, fi, f1, f2, f3, f4, f5, qn, qO, e4])
       have e3 : x.row s (i + 1) = ro ++ [((p : Int), (q : Int))] := by rw [e3]; simp
       refine wb0 (x.I - (i + 1)) (by omega) (by first|exact kb0|fail) ⟨i + 1, by omega, rfl, by rw [e3]; simp [rowA, eA], ?_⟩
       simp (disch := (first|exact discB|fail)) only [push_cast, simprocAttr, b1, b2, b3, b4, b5, b6, b7, e2, fb, fi, f1, f2, f3, f4, f5, qn, qO, e4]
      | true =>
       rw [hpa] at e3
       repeat' (first|refine nav ?_|(refine g0_ ?_; refine goD ?_)|(with_reducible refine gG ?_ ?_)|((with_reducible refine And.intro (fun h => ?_) (fun h => ?_)) <;> try (exfalso; omega))|(with_reducible refine andG ?_)|fail|simp (disch := (first|exact discB|fail)) only [push_cast, simprocAttr, b1, b2, b3, b4, b5, b6, b7, e2, fb, fi, f1, f2, f3, f4, f5, qn, qO, e4])
       ·have e3 : x.row s (i + 1) = ro ++ [(-1, -1)] := by rw [e3, if_pos ⟨rfl, by omega⟩]
        refine wb0 (x.I - (i + 1)) (by omega) (by first|exact kb0|fail) ⟨i + 1, by omega, rfl, by rw [e3]; simp [rowA, eA], ?_⟩
        simp (disch := (first|exact discB|fail)) only [push_cast, simprocAttr, b1, b2, b3, b4, b5, b6, b7, e2, fb, fi, f1, f2, f3, f4, f5, qn, qO, e4]
       ·have e3 : x.row s (i + 1) = ro ++ [((p : Int), (q : Int))] := by rw [e3, if_neg (by omega)]
        refine wb0 (x.I - (i + 1)) (by omega) (by first|exact kb0|fail) ⟨i + 1, by omega, rfl, by rw [e3]; simp [rowA, eA], ?_⟩
        simp (disch := (first|exact discB|fail)) only [push_cast, simprocAttr, b1, b2, b3, b4, b5, b6, b7, e2, fb, fi, f1, f2, f3, f4, f5, qn, qO, e4]
     ·obtain rfl := hv0 hk
      have f1 : (0 : Int).tmod 4 = (m : Int) := f1
      have f2 : (0 : Int).tdiv 4 = (v4 : Int) := f2
      cases hpa : x.pa with
      | false =>
       rw [hpa] at e3
       repeat' (first|refine nav ?_|(refine g0_ ?_; refine goD ?_)|(with_reducible refine gG ?_ ?_)|((with_reducible refine And.intro (fun h => ?_) (fun h => ?_)) <;> try (exfalso; omega))|(with_reducible refine andG ?_)|fail|simp (disch := (first|exact discB|fail)) only [push_cast, simprocAttr, b1, b2, b3, b4, b5, b6, b7, e2, fb, fi, f1, f2, f3, f4, f5, qn, qO])
       have e3 : x.row s (i + 1) = ro ++ [((p : Int), (q : Int))] := by rw [e3]; simp
       refine wb0 (x.I - (i + 1)) (by omega) (by first|exact kb0|fail) ⟨i + 1, by omega, rfl, by rw [e3]; simp [rowA, eA], ?_⟩
       simp (disch := (first|exact discB|fail)) only [push_cast, simprocAttr, b1, b2, b3, b4, b5, b6, b7, e2, fb, fi, f1, f2, f3, f4, f5, qn, qO]
      | true =>
       rw [hpa] at e3
       repeat' (first|refine nav ?_|(refine g0_ ?_; refine goD ?_)|(with_reducible refine gG ?_ ?_)|((with_reducible refine And.intro (fun h => ?_) (fun h => ?_)) <;> try (exfalso; omega))|(with_reducible refine andG ?_)|fail|simp (disch := (first|exact discB|fail)) only [push_cast, simprocAttr, b1, b2, b3, b4, b5, b6, b7, e2, fb, fi, f1, f2, f3, f4, f5, qn, qO])
       have e3 : x.row s (i + 1) = ro ++ [((p : Int), (q : Int))] := by rw [e3, if_neg (by omega)]
       refine wb0 (x.I - (i + 1)) (by omega) (by first|exact kb0|fail) ⟨i + 1, by omega, rfl, by rw [e3]; simp [rowA, eA], ?_⟩
       simp (disch := (first|exact discB|fail)) only [push_cast, simprocAttr, b1, b2, b3, b4, b5, b6, b7, e2, fb, fi, f1, f2, f3, f4, f5, qn, qO]
    ·obtain rfl : i = x.I := by omega
     have et : (rowA (x.row s x.I)).take x.I = rowA (x.row s x.I) := List.take_of_length_le (by omega)
     repeat' (first|refine nav ?_|(refine g0_ ?_; refine goD ?_)|(with_reducible refine gG ?_ ?_)|((with_reducible refine And.intro (fun h => ?_) (fun h => ?_)) <;> try (exfalso; omega))|(with_reducible refine andG ?_)|fail|simp (disch := (first|exact discB|fail)) only [push_cast, simprocAttr, b1, b2, b3, b4, b5, b6, b7, e2, e0])
     refine kaB9 (x.n - (s + 1)) 4 (j := 4) rfl (by omega) (by first|exact kb0|fail) (by omega) (by simp [frzH]) (by simp [frzH, frzB, frz, Blk.below, idsE, idsL, AV.ids, qbL9, wd0, e2, et]) ⟨s + 1, by omega, rfl, ?_, ?_⟩
     ·rw [e1]
      simp [frzH, frzB, frz, qbL9, e2, et]
      simp [qe0]
     ·simp (disch := (first|exact discB|fail)) only [push_cast, simprocAttr, b1, b2, b3, b4, b5, b6, b7, qm0, frz, AV.ids, idsL]
  ·obtain rfl : s = x.n := by omega
   repeat' (first|refine nav ?_|(refine g0_ ?_; refine goD ?_)|(with_reducible refine gG ?_ ?_)|((with_reducible refine And.intro (fun h => ?_) (fun h => ?_)) <;> try (exfalso; omega))|(with_reducible refine andG ?_)|fail|simp (disch := (first|exact discB|fail)) only [push_cast, simprocAttr, b1, b2, b3, b4, b5, e0])
theorem fitE_iff {o n : Int} {e : Edg} : fitE o n e = true ↔ e = (-1, -1) ∨ (0 ≤ e.1 ∧ e.1 < n ∧ 0 ≤ e.2 ∧ e.2 < o) := by
 obtain ⟨a, b⟩ := e
 simp only [fitE, Bool.or_eq_true, Bool.and_eq_true, decide_eq_true_eq, Prod.mk.injEq, and_assoc]
theorem vcH9 (pa : Bool) (n O v : Nat) (hn : 1 ≤ n) (hO : 1 ≤ O) : fitE O n (edM pa n O v) = true := by
 have h1 := Nat.mod_lt (v / 4) hn
 have h2 := Nat.mod_lt (v / 4 / n) hO
 rw [fitE_iff]
 unfold edM
 generalize v / 4 % n = a at *
 generalize v / 4 / n % O = b at *
 split
 ·exact .inl rfl
 ·exact .inr ⟨Int.natCast_nonneg a, Int.ofNat_lt.2 h1, Int.natCast_nonneg b, Int.ofNat_lt.2 h2⟩
theorem MD.bI (x : MD) : 1 ≤ x.I ∧ x.I ≤ 3 := by unfold MD.I; omega
theorem MD.bO (x : MD) : 1 ≤ x.O ∧ x.O ≤ 3 := by unfold MD.O; omega
theorem MD.bn (x : MD) : 1 ≤ x.n ∧ x.n ≤ 6 := by unfold MD.n; omega
theorem MD.edges (x : MD) : edgesOf (x.rows x.n) = (List.range x.n).map fun s => x.row s x.I := by simp [edgesOf, MD.rows]
theorem MD.row_at (x : MD) {j : Nat} (hj : j < x.n) : (x.rows x.n).getD j ([], none) = (x.row j x.I, none) := by simp [MD.rows, hj]
theorem MD.ok (x : MD) : qk0 x.I x.O (x.rows x.n) = 0 := by
 have := x.bI; have := x.bO; have := x.bn
 refine qbR9 (by omega) (by omega) (by rw [MD.rows_len]; omega) (fun s hs => ?_) fun j hj => ?_
 ·rw [MD.rows_len] at hs
  rw [x.row_at hs, x.row_len]
 ·rw [MD.rows_len] at hj ⊢
  rw [x.row_at hj, List.all_eq_true]
  intro e he
  obtain ⟨i, _, rfl⟩ := List.mem_map.1 he
  exact vcH9 _ _ _ _ (by omega) (by omega)
end Go.Proofs
