import Derived.Test.YtlpjemobbjijdaaGreatDoorL2
import Derived.Test.YtlpjemobbjijdaaGreatDoorV51
namespace Go.Proofs
open Go Go.V
set_option linter.unusedVariables false
set_option linter.unusedSimpArgs false
set_option maxHeartbeats 0
def Wide (i : Int) (l : List Row) : Prop := ∀ s, s < l.length → ((l.getD s ([], none)).1.length : Int) = i
theorem vd0 {i o : Int} {l : List Row} (h : zk0 i o l = 0) : (1 ≤ i ∧ i ≤ 16) ∧ (1 ≤ o ∧ o ≤ 16) ∧ (1 ≤ l.length ∧ l.length ≤ 64) ∧ Wide i l ∧ ∀ j, j < l.length → (l.getD j ([], none)).1.all (fitE o l.length) = true := by
 rw [zk0] at h;by_cases h1 : 16 < i ∨ 16 < o ∨ 64 < l.length
 ·rw [if_pos h1] at h; omega
 ·by_cases h2 : i < 1 ∨ o < 1 ∨ l.length < 1
  ·rw [if_neg h1, if_pos h2] at h; omega
  ·rw [if_neg h1, if_neg h2] at h;split at h
   ·rename_i hh;refine ⟨by omega, by omega, by omega, fun j hj => ?_, fun j hj => ?_⟩
    ·have := hh j hj; rw [waj9, l'a, decide_eq_true_eq] at this; exact this.1
    ·have := hh j hj; rw [waj9, l'a] at this; exact this.2
   ·omega
theorem xcq9 {i o : Int} {l : List Row} (h1 : 1 ≤ i ∧ i ≤ 16) (h2 : 1 ≤ o ∧ o ≤ 16) (h3 : 1 ≤ l.length ∧ l.length ≤ 64) (h4 : Wide i l) (h5 : ∀ j, j < l.length → (l.getD j ([], none)).1.all (fitE o l.length) = true) : zk0 i o l = 0 := by
 rw [zk0, if_neg (by omega), if_neg (by omega), if_pos];intro j hj;rw [waj9, h5 j hj, decide_eq_true (h4 j hj)]; rfl
def edgesOf (l : List Row) : List (List Edg) := l.map (·.1)
theorem kd0 (l : List Row) (k : Nat) : (edgesOf l).getD k [] = (l.getD k ([], none)).1 := by
 rw [edgesOf, l'b, l'b, l'k];cases l[k]? <;> rfl
set_option maxRecDepth 100000 in
theorem wcq9 (i o : Int) (l : List Row) (z : Nat) (c : Option Nat) (i' o' : Int) (l' : List Row) (z' : Nat) (c' : Option Nat) (hz : l = [] ∨ z = 1) (hz' : l' = [] ∨ z' = 1) (hl : l.length ≤ 1000000) (hl' : l'.length ≤ 1000000) (hr : ∀ j, j < l.length → (l.getD j ([], none)).1.length ≤ 1000000) (hr' : ∀ j, j < l'.length → (l'.getD j ([], none)).1.length ≤ 1000000) : PC Tryz.prog G0 69 [.agg [.int .i64 i, .int .i64 o, .sl z (kb0 l) c], .agg [.int .i64 i', .int .i64 o', .sl z' (kb0 l') c']] (.bool (decide (i = i' ∧ o = o' ∧ edgesOf l = edgesOf l'))) := by
 refine wb0 1 75 [.tmp 4] Tryz.func69 rfl rfl rfl (by simp) ?_;intro s ⟨a0, a1, hz⟩;simp only [l'g, Nat.reduceAdd] at a1;clear hz;repeat' (first|refine nv ?_|(with_reducible first|refine gG ?_ ?_|refine ⟨fun h => ?_, fun h => ?_⟩ <;> try omega|refine andG ?_)|simp (disch := try exact discB) only [push_cast, simprocAttr, a0, a1])
 ·rw [decide_eq_false];rintro ⟨h1, h2, h3⟩;have := congrArg List.length h3;simp [edgesOf] at this;omega
 ·refine go_loop rfl (fun mz s' H' => ∃ k : Nat, k ≤ l.length ∧ mz = l.length - k ∧ H' = [.row 3 24 [[.int .i64 i, .int .i64 o, .sl z (kb0 l) c]], .row 3 24 [[.int .i64 i', .int .i64 o', .sl z' (kb0 l') c']]] ∧ s' 2 = .ptr 0 0 0 1 ∧ s' 3 = .ptr 1 0 0 1 ∧ s' 5 = .int .i64 k ∧ ∀ j, j < k → (l.getD j ([], none)).1 = (l'.getD j ([], none)).1) (m := l.length) (by first|exact va0|fail) (Weak.refl _ _) ⟨0, by omega, by omega, rfl, ?_⟩ ?_
  ·simp (disch := try exact discB) only [push_cast, simprocAttr, a0, a1];all_goals exact fun j hj => by omega
  ·rintro mz s' H' ⟨k, hk, rfl, rfl, b2, b3, b5, ik⟩;rcases l'h k l.length with hlt|hge
   ·have hlt2 : k < l'.length := by omega
    obtain rfl : z = 1 := by
     rcases hz with h|h
     ·rw [h] at hlt; simp at hlt
     ·exact h
    obtain rfl : z' = 1 := by
     rcases hz' with h|h
     ·rw [h] at hlt2; simp at hlt2
     ·exact h
    have e1 := vo0 l k hlt;have e2 := vo0 l' k hlt2;have q1 := hr k hlt;have q2 := hr' k hlt2;have hs := wE0 (P := fun j => (l.getD j ([], none)).1 = (l'.getD j ([], none)).1) (k := k) ik;have hno : (l.getD k ([], none)).1 ≠ (l'.getD k ([], none)).1 → ¬(i = i' ∧ o = o' ∧ edgesOf l = edgesOf l') := fun h hh => h (by rw [← kd0, ← kd0, hh.2.2]);generalize (l.getD k ([], none)).1 = r at *;generalize (l'.getD k ([], none)).1 = r' at *;generalize (l.getD k ([], none)).2 = cc at *;generalize (l'.getD k ([], none)).2 = cc' at *;repeat' (first|refine nv ?_|(with_reducible first|refine gG ?_ ?_|refine ⟨fun h => ?_, fun h => ?_⟩ <;> try omega|refine andG ?_)|simp (disch := try exact discB) only [push_cast, simprocAttr, b2, b3, b5, e1, e2])
    ·rw [decide_eq_false];exact hno fun hh => by rw [hh] at h; omega
    ·rename_i hlen;refine go_loop rfl (fun mz s' H' => ∃ m : Nat, m ≤ r.length ∧ mz = r.length - m ∧ H' = [.row 3 24 [[.int .i64 i, .int .i64 o, .sl 1 (kb0 l) c]], .row 3 24 [[.int .i64 i', .int .i64 o', .sl 1 (kb0 l') c']]] ∧ s' 2 = .ptr 0 0 0 1 ∧ s' 3 = .ptr 1 0 0 1 ∧ s' 5 = .int .i64 k ∧ s' 6 = .int .i64 m ∧ ∀ j, j < m → r.getD j (0, 0) = r'.getD j (0, 0)) (m := r.length) (by first|exact va0|fail) (Weak.refl _ _) ⟨0, by omega, by omega, rfl, ?_⟩ ?_
     ·simp (disch := try exact discB) only [push_cast, simprocAttr, b2, b3, b5, e1, e2];all_goals exact fun j hj => by omega
     ·rintro mz s' H' ⟨m, hm, rfl, rfl, b2, b3, b5, b6, im⟩;rcases l'h m r.length with hlt3|hge3
      ·have hlt4 : m < r'.length := by omega
       have e3 := wn0 r m hlt3;have e4 := wn0 r' m hlt4;have hs3 := wE0 (P := fun j => r.getD j (0, 0) = r'.getD j (0, 0)) (k := m) im;have hno3 : r.getD m (0, 0) ≠ r'.getD m (0, 0) → ¬(i = i' ∧ o = o' ∧ edgesOf l = edgesOf l') := fun h => hno fun hh => h (by rw [hh]);generalize r.getD m (0, 0) = x at *;generalize r'.getD m (0, 0) = w at *;obtain ⟨x1, x2⟩ := x;obtain ⟨w1, w2⟩ := w;simp only [eA] at e3 e4;simp only [Prod.mk.injEq, Ne] at hs3 hno3;repeat' (first|refine nv ?_|(with_reducible first|refine gG ?_ ?_|refine ⟨fun h => ?_, fun h => ?_⟩ <;> try omega|refine andG ?_)|simp (disch := try exact discB) only [push_cast, simprocAttr, b2, b3, b5, b6, e1, e2, e3, e4])
       ·rw [decide_eq_false];exact hno3 (by omega)
       ·refine wa0 (r.length - (m + 1)) (by omega) (by first|exact va0|fail) ⟨m + 1, by omega, rfl, rfl, ?_⟩;simp (disch := try exact discB) only [push_cast, simprocAttr, b2, b3, b5, b6, e1, e2, e3, e4];exact hs3 (by omega)
      ·obtain rfl : m = r.length := by omega
       repeat' (first|refine nv ?_|(with_reducible first|refine gG ?_ ?_|refine ⟨fun h => ?_, fun h => ?_⟩ <;> try omega|refine andG ?_)|simp (disch := try exact discB) only [push_cast, simprocAttr, b2, b3, b5, b6, e1, e2])
       refine wa0 (l.length - (k + 1)) (by omega) (by first|exact va0|fail) ⟨k + 1, by omega, rfl, rfl, ?_⟩;simp (disch := try exact discB) only [push_cast, simprocAttr, b2, b3, b5, b6, e1, e2];exact hs (qH0 (0, 0) (by omega) im)
   ·obtain rfl : k = l.length := by omega
    repeat' (first|refine nv ?_|(with_reducible first|refine gG ?_ ?_|refine ⟨fun h => ?_, fun h => ?_⟩ <;> try omega|refine andG ?_)|simp (disch := try exact discB) only [push_cast, simprocAttr, b2, b3, b5])
    rw [decide_eq_true];refine ⟨by omega, by omega, qH0 [] (by simp [edgesOf]; omega) fun j hj => ?_⟩;rw [kd0, kd0];exact ik j (by simpa [edgesOf] using hj)
def u16s (es : List Nat) : List (List AV) := es.map fun (e : Nat) => [AV.int .u16 (e : Int)]
theorem vbu9 (es : List Nat) : (u16s es).length = es.length := by simp [u16s]
theorem vcq9 (es : List Nat) (k : Nat) (h : k < es.length) : (u16s es).getD k [] = [.int .u16 (es.getD k 0 : Nat)] := by simp [u16s, h]
theorem xL0 (p : Nat → Bool) (es : List Nat) : idsE p (u16s es) = true := xx0 _ _ fun x => by simp [idsL, AV.ids]
theorem qcR9 (p : Nat → Bool) (es : List Nat) : ((u16s es).all fun e => e.all fun x => AV.ids p x) = true := zt0 (xL0 p es)
attribute [simp] xL0
attribute [push_cast] qcR9 vbu9 xL0
structure MD where
 st : Nat
 inp : Nat
 ou : Nat
 pa : Bool
 es : List Nat
def MD.n (x : MD) : Nat := 1 + x.st % 6
def MD.I (x : MD) : Nat := 1 + x.inp % 3
def MD.O (x : MD) : Nat := 1 + x.ou % 3
def edM (pa : Bool) (n O v : Nat) : Edg := if pa = true ∧ v % 4 = 3 then (-1, -1) else (((v / 4 % n : Nat) : Int), ((v / 4 / n % O : Nat) : Int))
def MD.row (x : MD) (s k : Nat) : List Edg := (List.range k).map fun i => edM x.pa x.n x.O (x.es.getD (s * x.I + i) 0)
def MD.rows (x : MD) (k : Nat) : List Row := (List.range k).map fun s => (x.row s x.I, none)
structure MD.Ok (x : MD) : Prop where
 st : x.st < 256
 inp : x.inp < 256
 ou : x.ou < 256
 es : ∀ e ∈ x.es, e < 65536
def mdC (x : MD) (z : Nat) (c : Option Nat) : List AV := [.int .u8 x.st, .int .u8 x.inp, .int .u8 x.ou, .bool x.pa, .sl z (u16s x.es) c]
theorem xar9 (a m : Nat) : (a : Int).tmod (m : Int) = ((a % m : Nat) : Int) := rfl
theorem vbG9 (a m : Nat) : (a : Int).tdiv (m : Int) = ((a / m : Nat) : Int) := rfl
theorem kbu9 (a m : Nat) (hm : m < 1000000) (h0 : 0 < m) : IntKind.i64.wrap (1 + IntKind.i64.wrap ((a : Int).tmod (m : Int))) = ((1 + a % m : Nat) : Int) := by
 have := n'u a h0;rw [xar9];generalize a % m = r at *;rw [wcp9 (r : Int) (by omega) (by omega), wcp9 _ (by omega) (by omega)];omega
theorem MD.row_succ (x : MD) (s k : Nat) : x.row s (k + 1) = x.row s k ++ [edM x.pa x.n x.O (x.es.getD (s * x.I + k) 0)] := by
 rw [MD.row, n'j, n'c]; rfl
theorem MD.rows_succ (x : MD) (k : Nat) : x.rows (k + 1) = x.rows k ++ [(x.row k x.I, none)] := by
 rw [MD.rows, n'j, n'c]; rfl
theorem MD.row_len (x : MD) (s k : Nat) : (x.row s k).length = k := by simp [MD.row]
theorem MD.rows_len (x : MD) (k : Nat) : (x.rows k).length = k := by simp [MD.rows]
theorem kcq9 {α : Type} {p : α → Prop} {l : List α} {d : α} (h : ∀ x ∈ l, p x) (hd : p d) (k : Nat) : p (l.getD k d) := by
 rw [l'b];cases hk : l[k]? with
 | none => exact hd
 | some x => exact h x (l'l hk)
set_option maxRecDepth 100000 in
theorem mOf9 (x : MD) (z : Nat) (c : Option Nat) (hx : x.Ok) (hz : x.es = [] ∨ z = 1) : PC Tryz.prog G0 62 [.agg (mdC x z c)] (mA x.I x.O (x.rows x.n) none) := by
 obtain ⟨h1, h2, h3, h4⟩ := hx;have fn : IntKind.i64.wrap (1 + IntKind.i64.wrap ((x.st : Int).tmod 6)) = (x.n : Int) := kbu9 x.st 6 (by omega) (by omega);have fI : IntKind.i64.wrap (1 + IntKind.i64.wrap ((x.inp : Int).tmod 3)) = (x.I : Int) := kbu9 x.inp 3 (by omega) (by omega);have fO : IntKind.i64.wrap (1 + IntKind.i64.wrap ((x.ou : Int).tmod 3)) = (x.O : Int) := kbu9 x.ou 3 (by omega) (by omega);have bn : 1 ≤ x.n ∧ x.n ≤ 6 := by unfold MD.n; omega
 have bI : 1 ≤ x.I ∧ x.I ≤ 3 := by unfold MD.I; omega
 have bO : 1 ≤ x.O ∧ x.O ≤ 3 := by unfold MD.O; omega
 have qn : (x.n : Int) ≠ 0 := by omega
 have qO : (x.O : Int) ≠ 0 := by omega
 unfold mdC mA;refine wb0 1 87 [.cell 2 24] Tryz.func62 rfl rfl rfl (by simp) ?_;intro s ⟨a0, hz⟩;clear hz;repeat' (first|refine nv ?_|(with_reducible first|refine gG ?_ ?_|refine ⟨fun h => ?_, fun h => ?_⟩ <;> try omega|refine andG ?_)|simp (disch := try exact discB) only [push_cast, simprocAttr, a0, fn, fI, fO])
 refine go_loop rfl (fun mz s' H' => ∃ s : Nat, s ≤ x.n ∧ mz = x.n - s ∧ H' = [.row 5 44 [[.int .u8 x.st, .int .u8 x.inp, .int .u8 x.ou, .bool x.pa, .sl z (u16s x.es) c]], .row 3 24 [[.int .i64 0, .int .i64 0, .sl 0 [] (some 0)]], .row 3 24 [[.int .i64 x.I, .int .i64 x.O, .own 3 s s none]], .row 1 50 (kb0 (x.rows s))] ∧ s' 1 = .ptr 0 0 0 1 ∧ s' 2 = .ptr 1 0 0 1 ∧ s' 3 = .int .i64 x.n ∧ s' 4 = .ptr 2 0 0 1 ∧ s' 5 = .int .i64 s) (m := x.n) (by first|exact va0|fail) (zj0 (b := 2) (i := 0) (j := 2) (sz := 1) (ty := 50) rfl rfl rfl) ⟨0, by omega, by omega, (by first|rfl|simp [MD.rows, kb0, List.range_zero, List.map_nil]), ?_⟩ ?_
 ·simp (disch := try exact discB) only [push_cast, simprocAttr, a0, fn, fI, fO]
 ·rintro mz s' H' ⟨s, hs, rfl, rfl, b1, b2, b3, b4, b5⟩;have e0 : (kb0 (x.rows s)).length = s := by simp [kb0, MD.rows]
  rcases l'h s x.n with hlt|hge
  ·have e1 := x.rows_succ s;repeat' (first|refine nv ?_|(with_reducible first|refine gG ?_ ?_|refine ⟨fun h => ?_, fun h => ?_⟩ <;> try omega|refine andG ?_)|simp (disch := try exact discB) only [push_cast, simprocAttr, b1, b2, b3, b4, b5, e0])
   refine kq0 (by first|exact va0|fail) (qr0 (t := 6) (sz := 2) (ty := 70) rfl) ?_;generalize x.rows s = rs at *;obtain ⟨b, hb⟩ : ∃ b : Nat, b = s * x.I := ⟨_, rfl⟩;have hb2 : b ≤ 18 := by
    rw [hb]; exact n'a (Nat.mul_le_mul (show s ≤ 6 by omega) bI.2) (by omega)
   have fb : (s : Int) * (x.I : Int) = (b : Int) := by rw [hb]; exact (Int.natCast_mul s x.I).symm
   refine go_loop rfl (fun mz s' H' => ∃ i : Nat, i ≤ x.I ∧ mz = x.I - i ∧ H' = [.row 5 44 [[.int .u8 x.st, .int .u8 x.inp, .int .u8 x.ou, .bool x.pa, .sl z (u16s x.es) c]], .row 3 24 [[.int .i64 0, .int .i64 0, .sl 0 [] (some 0)]], .row 3 24 [[.int .i64 x.I, .int .i64 x.O, .own 3 s s none]], .row 1 50 (kb0 rs), .row 2 70 (rowA (x.row s i))] ∧ s' 1 = .ptr 0 0 0 1 ∧ s' 2 = .ptr 1 0 0 1 ∧ s' 3 = .int .i64 x.n ∧ s' 4 = .ptr 2 0 0 1 ∧ s' 5 = .int .i64 s ∧ s' 6 = .own 4 i i none ∧ s' 7 = .int .i64 i) (m := x.I) (by first|exact va0|fail) (Weak.refl _ _) ⟨0, by omega, by omega, (by first|rfl|simp [MD.row, rowA, List.range_zero, List.map_nil]), ?_⟩ ?_
   ·simp (disch := try exact discB) only [push_cast, simprocAttr, b1, b2, b3, b4, b5, e0]
   ·rintro mz s' H' ⟨i, hi, rfl, rfl, b1, b2, b3, b4, b5, b6, b7⟩;have e2 : (rowA (x.row s i)).length = i := by rw [qf0, MD.row_len]
    rcases l'h i x.I with hlt2|hge2
    ·have e3 := x.row_succ s i;rw [← hb] at e3;have e4 := fun h => vcq9 x.es (b + i) h;have hv : x.es.getD (b + i) 0 < 65536 := kcq9 (p := fun e => e < 65536) h4 (by omega) _;have hv0 : x.es.length ≤ b + i → x.es.getD (b + i) 0 = 0 := fun h => by simp [h]
     generalize x.row s i = ro at *;generalize x.es.getD (b + i) 0 = v at *;obtain ⟨m, hm⟩ : ∃ m : Nat, m = v % 4 := ⟨_, rfl⟩;obtain ⟨p, hp⟩ : ∃ p : Nat, p = v / 4 % x.n := ⟨_, rfl⟩;obtain ⟨q, hq⟩ : ∃ q : Nat, q = v / 4 / x.n % x.O := ⟨_, rfl⟩;have hed : edM x.pa x.n x.O v = if x.pa = true ∧ m = 3 then (-1, -1) else ((p : Int), (q : Int)) := by rw [edM, hm, hp, hq]
     rw [hed] at e3;have f1 : (v : Int).tmod 4 = (m : Int) := by rw [hm]; exact xar9 v 4
     have f2 : (v : Int).tdiv 4 = ((v / 4 : Nat) : Int) := vbG9 v 4;have b4' : v / 4 ≤ 65536 := by omega
     generalize v / 4 = v4 at *;have f3 : (v4 : Int).tmod x.n = (p : Int) := by rw [hp]; exact xar9 _ _
     have f4 : (v4 : Int).tdiv x.n = ((v4 / x.n : Nat) : Int) := vbG9 _ _;have b5' : v4 / x.n ≤ 65536 := n'a (Nat.div_le_self _ _) b4';generalize v4 / x.n = v5 at *;have f5 : (v5 : Int).tmod x.O = (q : Int) := by rw [hq]; exact xar9 _ _
     have fi : ((b : Int) + i).toNat = b + i := by omega
     rcases l'h (b + i) x.es.length with hk|hk
     ·have e4 := e4 hk;obtain rfl := hz.resolve_left (by intro h; rw [h] at hk; simp at hk);cases hpa : x.pa with
      | false =>
       rw [hpa] at e3;repeat' (first|refine nv ?_|(with_reducible first|refine gG ?_ ?_|refine ⟨fun h => ?_, fun h => ?_⟩ <;> try omega|refine andG ?_)|simp (disch := try exact discB) only [push_cast, simprocAttr, b1, b2, b3, b4, b5, b6, b7, e2, fb, fi, f1, f2, f3, f4, f5, qn, qO, e4])
       have e3 : x.row s (i + 1) = ro ++ [((p : Int), (q : Int))] := by rw [e3]; simp
       refine wa0 (x.I - (i + 1)) (by omega) (by first|exact va0|fail) ⟨i + 1, by omega, rfl, by rw [e3]; simp [rowA, eA], ?_⟩;simp (disch := try exact discB) only [push_cast, simprocAttr, b1, b2, b3, b4, b5, b6, b7, e2, fb, fi, f1, f2, f3, f4, f5, qn, qO, e4]
      | true =>
       rw [hpa] at e3;repeat' (first|refine nv ?_|(with_reducible first|refine gG ?_ ?_|refine ⟨fun h => ?_, fun h => ?_⟩ <;> try omega|refine andG ?_)|simp (disch := try exact discB) only [push_cast, simprocAttr, b1, b2, b3, b4, b5, b6, b7, e2, fb, fi, f1, f2, f3, f4, f5, qn, qO, e4])
       ·have e3 : x.row s (i + 1) = ro ++ [(-1, -1)] := by rw [e3, if_pos ⟨rfl, by omega⟩]
        refine wa0 (x.I - (i + 1)) (by omega) (by first|exact va0|fail) ⟨i + 1, by omega, rfl, by rw [e3]; simp [rowA, eA], ?_⟩;simp (disch := try exact discB) only [push_cast, simprocAttr, b1, b2, b3, b4, b5, b6, b7, e2, fb, fi, f1, f2, f3, f4, f5, qn, qO, e4]
       ·have e3 : x.row s (i + 1) = ro ++ [((p : Int), (q : Int))] := by rw [e3, if_neg (by omega)]
        refine wa0 (x.I - (i + 1)) (by omega) (by first|exact va0|fail) ⟨i + 1, by omega, rfl, by rw [e3]; simp [rowA, eA], ?_⟩;simp (disch := try exact discB) only [push_cast, simprocAttr, b1, b2, b3, b4, b5, b6, b7, e2, fb, fi, f1, f2, f3, f4, f5, qn, qO, e4]
     ·obtain rfl := hv0 hk;have f1 : (0 : Int).tmod 4 = (m : Int) := f1;have f2 : (0 : Int).tdiv 4 = (v4 : Int) := f2;cases hpa : x.pa with
      | false =>
       rw [hpa] at e3;repeat' (first|refine nv ?_|(with_reducible first|refine gG ?_ ?_|refine ⟨fun h => ?_, fun h => ?_⟩ <;> try omega|refine andG ?_)|simp (disch := try exact discB) only [push_cast, simprocAttr, b1, b2, b3, b4, b5, b6, b7, e2, fb, fi, f1, f2, f3, f4, f5, qn, qO])
       have e3 : x.row s (i + 1) = ro ++ [((p : Int), (q : Int))] := by rw [e3]; simp
       refine wa0 (x.I - (i + 1)) (by omega) (by first|exact va0|fail) ⟨i + 1, by omega, rfl, by rw [e3]; simp [rowA, eA], ?_⟩;simp (disch := try exact discB) only [push_cast, simprocAttr, b1, b2, b3, b4, b5, b6, b7, e2, fb, fi, f1, f2, f3, f4, f5, qn, qO]
      | true =>
       rw [hpa] at e3;repeat' (first|refine nv ?_|(with_reducible first|refine gG ?_ ?_|refine ⟨fun h => ?_, fun h => ?_⟩ <;> try omega|refine andG ?_)|simp (disch := try exact discB) only [push_cast, simprocAttr, b1, b2, b3, b4, b5, b6, b7, e2, fb, fi, f1, f2, f3, f4, f5, qn, qO])
       have e3 : x.row s (i + 1) = ro ++ [((p : Int), (q : Int))] := by rw [e3, if_neg (by omega)]
       refine wa0 (x.I - (i + 1)) (by omega) (by first|exact va0|fail) ⟨i + 1, by omega, rfl, by rw [e3]; simp [rowA, eA], ?_⟩;simp (disch := try exact discB) only [push_cast, simprocAttr, b1, b2, b3, b4, b5, b6, b7, e2, fb, fi, f1, f2, f3, f4, f5, qn, qO]
    ·obtain rfl : i = x.I := by omega
     have et : (rowA (x.row s x.I)).take x.I = rowA (x.row s x.I) := l'y (by omega);repeat' (first|refine nv ?_|(with_reducible first|refine gG ?_ ?_|refine ⟨fun h => ?_, fun h => ?_⟩ <;> try omega|refine andG ?_)|simp (disch := try exact discB) only [push_cast, simprocAttr, b1, b2, b3, b4, b5, b6, b7, e2, e0])
     refine xo0 (x.n - (s + 1)) 4 (j := 4) rfl (by omega) (by first|exact va0|fail) (by omega) (by simp [frzH]) (by simp [frzH, frzB, frz, Blk.below, idsE, idsL, AV.ids, qp0, zc0, e2, et]) ⟨s + 1, by omega, rfl, ?_, ?_⟩
     ·rw [e1];simp [frzH, frzB, frz, qp0, e2, et];simp [kb0]
     ·simp (disch := try exact discB) only [push_cast, simprocAttr, b1, b2, b3, b4, b5, b6, b7, xi0, frz, AV.ids, idsL]
  ·obtain rfl : s = x.n := by omega
   repeat' (first|refine nv ?_|(with_reducible first|refine gG ?_ ?_|refine ⟨fun h => ?_, fun h => ?_⟩ <;> try omega|refine andG ?_)|simp (disch := try exact discB) only [push_cast, simprocAttr, b1, b2, b3, b4, b5, e0])
theorem waB9 (l : List Row) : (edgesOf l).length = l.length := by simp [edgesOf]
theorem fitE_iff {o n : Int} {e : Edg} : fitE o n e = true ↔ e = (-1, -1) ∨ (0 ≤ e.1 ∧ e.1 < n ∧ 0 ≤ e.2 ∧ e.2 < o) := by
 obtain ⟨a, b⟩ := e;simp only [fitE, l's, l'a, decide_eq_true_eq, Prod.mk.injEq, and_assoc]
theorem xds9 (pa : Bool) (n O v : Nat) (hn : 1 ≤ n) (hO : 1 ≤ O) : fitE O n (edM pa n O v) = true := by
 have h1 := n'u (v / 4) hn;have h2 := n'u (v / 4 / n) hO;rw [fitE_iff];unfold edM;generalize v / 4 % n = a at *;generalize v / 4 / n % O = b at *;split
 ·exact .inl rfl
 ·exact .inr ⟨Int.natCast_nonneg a, Int.ofNat_lt.2 h1, Int.natCast_nonneg b, Int.ofNat_lt.2 h2⟩
theorem MD.bI (x : MD) : 1 ≤ x.I ∧ x.I ≤ 3 := by unfold MD.I; omega
theorem MD.bO (x : MD) : 1 ≤ x.O ∧ x.O ≤ 3 := by unfold MD.O; omega
theorem MD.bn (x : MD) : 1 ≤ x.n ∧ x.n ≤ 6 := by unfold MD.n; omega
theorem MD.edges (x : MD) : edgesOf (x.rows x.n) = (List.range x.n).map fun s => x.row s x.I := by simp [edgesOf, MD.rows]
theorem MD.row_at (x : MD) {j : Nat} (hj : j < x.n) : (x.rows x.n).getD j ([], none) = (x.row j x.I, none) := by simp [MD.rows, hj]
theorem MD.ok (x : MD) : zk0 x.I x.O (x.rows x.n) = 0 := by
 have := x.bI; have := x.bO; have := x.bn
 refine xcq9 (by omega) (by omega) (by rw [MD.rows_len]; omega) (fun s hs => ?_) fun j hj => ?_
 ·rw [MD.rows_len] at hs;rw [x.row_at hs, x.row_len]
 ·rw [MD.rows_len] at hj ⊢;rw [x.row_at hj, l'j];intro e he;obtain ⟨i, _, rfl⟩ := l'Z.1 he;exact xds9 _ _ _ _ (by omega) (by omega)
set_option maxRecDepth 100000
def digs10 : Bs := [48, 49, 50, 51, 52, 53, 54, 55, 56, 57]
theorem zcR9 (b : UInt8) : digs10.contains b = digB b := by
 have key : ∀ n : Nat, n < 256 → digs10.contains (UInt8.ofNat n) = digB (UInt8.ofNat n) := by decide +kernel
 have := key b.toNat (UInt8.toNat_lt b)
 rwa [UInt8.ofNat_toNat] at this
theorem xcR9 (w : Bs) : (Lib.trimLeftS w digs10 = []) = (w.all digB = true) := by
 apply propext;unfold Lib.trimLeftS;induction w with
 | nil => simp
 | cons a r ih =>
  rw [n'd, List.all_cons];simp only [zcR9] at ih ⊢;cases digB a
  ·simp
  ·simpa using ih
theorem kdK9 (w : Bs) (hw : w ≠ []) : PC Tryz.prog G0 127 [.str w] (.tup [.int .u8 (zB0 w).1, .int .i64 (zB0 w).2]) := by
 have h0 := xaM9 w;have h1 := zbG9 (w.getD 0 0);have h2 := fun H => qdK9 H w;have h3 := xcR9 w;have hl : 0 < w.length := n'm.2 hw;have ka := qan9 w;have kb := vco9 w;have kn := kco9 w;have kz : w = [48] → zB0 w = (2, 0) := fun q => by rw [q]; exact xbT9
 rw [h0] at ka kb kn;have e48 : (((w.getD 0 0).toNat : Int) = 48) = (w.getD 0 0 = 48) := by
  apply propext;rw [← l'Y];show _ ↔ (w.getD 0 0).toNat = 48;omega
 unfold digs10 at h3;generalize Lib.trimLeftS w [48, 49, 50, 51, 52, 53, 54, 55, 56, 57] = T at *;generalize hcc : w.getD 0 0 = c at *;cases hc : letB c with
 | true =>
  rw [hc] at h1;rw [ka hc];refine wb0 0 27 [.tmp 2, .tmp 3] Tryz.func127 rfl rfl rfl (by simp) ?_;intro s ⟨a0, hz⟩;clear hz;repeat' (first|refine nv ?_|(with_reducible first|refine gG ?_ ?_|refine ⟨fun h => ?_, fun h => ?_⟩ <;> try omega|refine andG ?_)|refine cp h1 ?_|simp (disch := try exact discB) only [push_cast, simprocAttr, a0, hcc])
  ·rw [if_pos (by omega)]; exact ⟨rfl, rfl⟩
  ·rw [if_neg (by omega)]; exact ⟨rfl, rfl⟩
 | false =>
  rw [hc] at h1;have kb := kb (by rw [hc]; decide);have kn := kn (by rw [hc]; decide);refine wb0 0 27 [.tmp 2, .tmp 3] Tryz.func127 rfl rfl rfl (by simp) ?_;intro s ⟨a0, hz⟩;clear hz;repeat' (first|refine nv ?_|(with_reducible first|refine gG ?_ ?_|refine ⟨fun h => ?_, fun h => ?_⟩ <;> try omega|refine andG ?_)|refine cp h1 ?_|refine cl (h2 _) ?_|simp (disch := try exact discB) only [push_cast, simprocAttr, a0, hcc, e48, h3])
  ·rw [kz h]; exact ⟨rfl, rfl⟩
  ·rename_i q; rw [kb q hw (h.elim .inl fun h => .inr (.inl (by omega)))]; exact ⟨rfl, rfl⟩
  ·rename_i q1 q2; rw [kb q1 hw (.inr (.inr h))]; exact ⟨rfl, rfl⟩
  ·rename_i q1 q2; rw [kn q2.1 (by omega) h]; exact ⟨rfl, rfl⟩
theorem qcr9 (s0 : Bs) (hs : s0.length ≤ 1000000) : PC Tryz.prog G0 102 [.str s0] (.tup [.agg [.int .u8 (tokS s0).1, .str (s0.take (tokS s0).2.1), .int .i64 0, .int .i64 0], .int .i64 (tokS s0).2.2]) := by
 have h1 := xdK9 s0 hs;have h2 := kdK9 (wordS s0);have h3 := vdK9 s0;have t1 := vbi9 s0;have t2 := xaA9 s0;have t3 := wo0 s0;have hm := vbE9 s0;by_cases hw : wordS s0 = []
 ·rw [hw] at h1;rw [t2 hw];by_cases h0 : zm0 s0 = 0
  ·rw [if_pos h0];rw [h0] at h3;refine wb0 0 28 [.cell 2 115, .tmp 3] Tryz.func102 rfl rfl rfl (by simp) ?_;intro s ⟨a0, hz⟩;clear hz;repeat' (first|refine nv ?_|(with_reducible first|refine gG ?_ ?_|refine ⟨fun h => ?_, fun h => ?_⟩ <;> try omega|refine andG ?_)|refine cp h1 ?_|refine cp h3 ?_|simp (disch := try exact discB) only [push_cast, simprocAttr, a0])
  ·rw [if_neg h0];have hne : s0.take (zm0 s0) ≠ [] := by
    intro q;have := congrArg List.length q;rw [l'x, List.length_nil] at this;omega
   simp only;generalize s0.take (zm0 s0) = M at *;refine wb0 0 28 [.cell 2 115, .tmp 3] Tryz.func102 rfl rfl rfl (by simp) ?_;intro s ⟨a0, hz⟩;clear hz;repeat' (first|refine nv ?_|(with_reducible first|refine gG ?_ ?_|refine ⟨fun h => ?_, fun h => ?_⟩ <;> try omega|refine andG ?_)|refine cp h1 ?_|refine cp h3 ?_|simp (disch := try exact discB) only [push_cast, simprocAttr, a0, hne])
 ·have h2 := h2 hw;rw [t1 hw];simp only [t3];generalize wordS s0 = W at *;generalize zB0 W = K at *;refine wb0 0 28 [.cell 2 115, .tmp 3] Tryz.func102 rfl rfl rfl (by simp) ?_;intro s ⟨a0, hz⟩;clear hz;repeat' (first|refine nv ?_|(with_reducible first|refine gG ?_ ?_|refine ⟨fun h => ?_, fun h => ?_⟩ <;> try omega|refine andG ?_)|refine cp h1 ?_|refine cp h2 ?_|simp (disch := try exact discB) only [push_cast, simprocAttr, a0, hw])
  try rfl
theorem wej9 (s0 : Bs) (hs : s0.length ≤ 1000000) : PC Tryz.prog G0 100 [.str s0] (.int .i64 (gapS false s0 : Nat)) := by
 have hg := vai9 false s0;refine wb0 0 34 [.tmp 2] Tryz.func100 rfl rfl rfl (by simp) ?_;intro s ⟨a0, hz⟩;clear hz;repeat' (first|refine nv ?_|(with_reducible first|refine gG ?_ ?_|refine ⟨fun h => ?_, fun h => ?_⟩ <;> try omega|refine andG ?_)|simp (disch := try exact discB) only [push_cast, simprocAttr, a0])
 refine go_loop rfl (fun mz s' H' => ∃ n : Nat, n ≤ s0.length ∧ mz = s0.length - n ∧ H' = [] ∧ s' 0 = .str s0 ∧ s' 3 = .int .i64 n ∧ gapS false s0 = n + gapS false (s0.drop n)) (m := s0.length) (by first|exact va0|fail) (Weak.refl _ _) ⟨0, by omega, by omega, rfl, ?_⟩ ?_
 ·simp (disch := try exact discB) only [push_cast, simprocAttr, a0]
 ·rintro mz s' H' ⟨n, hn, rfl, rfl, b0, b3, ik⟩;rcases l'h n s0.length with hlt|hge
  ·have eb := getD_some hlt;have g1 := wco9 s0 n (s0.getD n 0) eb;have g2 := xdr9 s0 n;have g3 := kcP9 s0 n (s0.getD n 0) eb;have hix := fun H => vdJ9 H (s0.drop n) 10 10 rfl;have hne := @Lib.indexByte_none (s0.drop n) 10;have hso := @Lib.indexByte_some (s0.drop n) 10;have hge := Lib.indexByte_ge (s0.drop n) 10;have hbl : blkB (s0.getD n 0) = true ↔ ((s0.getD n 0).toNat : Int) = 32 ∨ ((s0.getD n 0).toNat : Int) = 9 ∨ ((s0.getD n 0).toNat : Int) = 13 := by
    simp only [blkB, l's, decide_eq_true_eq, ← l'Y, or_assoc];show ((s0.getD n 0).toNat = 32 ∨ (s0.getD n 0).toNat = 9 ∨ (s0.getD n 0).toNat = 13) ↔ _;omega
   have h10 : s0.getD n 0 = 10 ↔ ((s0.getD n 0).toNat : Int) = 10 := by
    rw [← l'Y]; show (s0.getD n 0).toNat = 10 ↔ _; omega
   have h35 : s0.getD n 0 = 35 ↔ ((s0.getD n 0).toNat : Int) = 35 := by
    rw [← l'Y]; show (s0.getD n 0).toNat = 35 ↔ _; omega
   have g2 : s0.getD n 0 = 35 → _ := fun q => g2 (by rw [eb, q]) ik;generalize Lib.indexByte (s0.drop n) 10 = ix at *;generalize hbb : s0.getD n 0 = b at *;have g1 := fun q => g1 q ik;have g3 := fun p q r => g3 p q r ik;rw [hbl, h10] at g1;rw [hbl, h10, h35] at g3;rw [h35] at g2;generalize hvv : (b.toNat : Int) = v at *;repeat' (first|refine nv ?_|(with_reducible first|refine gG ?_ ?_|refine ⟨fun h => ?_, fun h => ?_⟩ <;> try omega|refine andG ?_)|refine cl (hix _) ?_|simp (disch := try exact discB) only [push_cast, simprocAttr, b0, b3, hbb, hvv])
   ·refine wa0 (s0.length - (n + 1)) (by omega) (by first|exact va0|fail) ⟨n + 1, by omega, rfl, rfl, ?_⟩;simp (disch := try exact discB) only [push_cast, simprocAttr, b0, b3, hbb, hvv];exact g1 (by simp [h])
   ·refine wa0 (s0.length - (n + 1)) (by omega) (by first|exact va0|fail) ⟨n + 1, by omega, rfl, rfl, ?_⟩;simp (disch := try exact discB) only [push_cast, simprocAttr, b0, b3, hbb, hvv];exact g1 (by simp [h])
   ·refine wa0 (s0.length - (n + 1)) (by omega) (by first|exact va0|fail) ⟨n + 1, by omega, rfl, rfl, ?_⟩;simp (disch := try exact discB) only [push_cast, simprocAttr, b0, b3, hbb, hvv];exact g1 (by simp [h])
   ·refine wa0 (s0.length - (n + 1)) (by omega) (by first|exact va0|fail) ⟨n + 1, by omega, rfl, rfl, ?_⟩;simp (disch := try exact discB) only [push_cast, simprocAttr, b0, b3, hbb, hvv];exact g1 (by simp [h])
   ·rw [(g2 (by assumption)).1 (hne (by omega))]
   ·obtain ⟨o, rfl⟩ : ∃ o : Nat, ix = o := ⟨ix.toNat, by omega⟩;rename_i hv35 _;obtain ⟨k1, k2⟩ := hso rfl;have ho : 0 < o := by
     rcases n'g o with q|q
     ·subst q;rw [l'Q, Nat.add_zero, eb, Option.some.injEq, h10] at k1;omega
     ·exact q
    have hon : n + o ≤ s0.length := by
     have := (l'c.1 k1).1;rw [l'z] at this;omega
    have hg2 := (g2 (by assumption)).2 o k1 k2;refine wa0 (s0.length - (n + o)) (by omega) (by first|exact va0|fail) ⟨n + o, by omega, rfl, rfl, ?_⟩;simp (disch := try exact discB) only [push_cast, simprocAttr, b0, b3, hbb, hvv];exact hg2
   ·rw [g3 (by omega) (by omega) (by omega)]
  ·obtain rfl : n = s0.length := by omega
   rw [n'Y] at ik;repeat' (first|refine nv ?_|(with_reducible first|refine gG ?_ ?_|refine ⟨fun h => ?_, fun h => ?_⟩ <;> try omega|refine andG ?_)|simp (disch := try exact discB) only [push_cast, simprocAttr, b0, b3])
   rw [ik]; rfl
end Go.Proofs
