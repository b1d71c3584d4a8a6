import Derived.Test.YtlpjemobbjijdaaGreatDoorS27
import Derived.Test.YtlpjemobbjijdaaGreatDoorV33
import Derived.Test.YtlpjemobbjijdaaGreatDoorS29
namespace Go.Proofs
open Go Go.V
set_option linter.unusedVariables false
set_option linter.unusedSimpArgs false
set_option maxHeartbeats 0
set_option maxRecDepth 100000
structure ND where
 m : MD
 nm : Nat
def nmsN : List Bs := [[109], [76, 97, 109, 112, 95, 50], [97, 98, 99, 100, 101, 102, 103, 104, 105, 106, 107, 108, 109, 110, 111, 112]]
def insN : List (List Bs) := [[[97], [98], [99]], [[112, 114, 101, 115, 115], [116, 105, 99, 107], [115, 48]], [[69, 110, 100], [120], [73, 110, 112, 117, 116, 115]]]
def outsN : List (List Bs) := [[[120], [121], [122]], [[97], [111, 110], [111, 102, 102]], [[111, 49], [111, 49, 48], [111]]]
def stsN : List (List Bs) := [[[115, 48], [115, 49], [115, 50], [115, 51], [115, 52], [115, 53]], [[97], [98], [99], [120], [121], [122]], [[105, 100, 108, 101], [73, 100, 108, 101], [73, 68, 76, 69], [105, 95], [105, 95, 95], [105, 48]]]
def ND.G (x : ND) : GS := ⟨nmsN.getD (x.nm % 3) [], x.m.I, x.m.O, 1, x.m.rows x.m.n, none, 1, (insN.getD (x.nm / 3 % 3) []).take x.m.I, none, 1, (outsN.getD (x.nm / 9 % 3) []).take x.m.O, none, 1, (stsN.getD (x.nm / 27 % 3) []).take x.m.n, none⟩
def ndC (x : ND) (z : Nat) (c : Option Nat) : List AV := mdC x.m z c ++ [.int .u8 x.nm]
theorem lt3 {q : Nat} (h : q < 3) : q = 0 ∨ q = 1 ∨ q = 2 := by omega
theorem gN {q : Nat} (h : q < 3) : ([[.str [109]], [.str [76, 97, 109, 112, 95, 50]], [.str [97, 98, 99, 100, 101, 102, 103, 104, 105, 106, 107, 108, 109, 110, 111, 112]]] : List (List AV)).getD q [] = [.str (nmsN.getD q [])] := by
 rcases lt3 h with rfl|rfl|rfl <;> rfl
theorem gI {q : Nat} (h : q < 3) : ([[.sl 1 [[.str [97]], [.str [98]], [.str [99]]] (some 3)], [.sl 1 [[.str [112, 114, 101, 115, 115]], [.str [116, 105, 99, 107]], [.str [115, 48]]] (some 3)], [.sl 1 [[.str [69, 110, 100]], [.str [120]], [.str [73, 110, 112, 117, 116, 115]]] (some 3)]] : List (List AV)).getD q [] = [.sl 1 (strs (insN.getD q [])) (some 3)] ∧ (insN.getD q []).length = 3 := by
 rcases lt3 h with rfl|rfl|rfl <;> exact ⟨rfl, rfl⟩
theorem gO {q : Nat} (h : q < 3) : ([[.sl 1 [[.str [120]], [.str [121]], [.str [122]]] (some 3)], [.sl 1 [[.str [97]], [.str [111, 110]], [.str [111, 102, 102]]] (some 3)], [.sl 1 [[.str [111, 49]], [.str [111, 49, 48]], [.str [111]]] (some 3)]] : List (List AV)).getD q [] = [.sl 1 (strs (outsN.getD q [])) (some 3)] ∧ (outsN.getD q []).length = 3 := by
 rcases lt3 h with rfl|rfl|rfl <;> exact ⟨rfl, rfl⟩
theorem gS {q : Nat} (h : q < 3) : ([[.sl 1 [[.str [115, 48]], [.str [115, 49]], [.str [115, 50]], [.str [115, 51]], [.str [115, 52]], [.str [115, 53]]] (some 6)], [.sl 1 [[.str [97]], [.str [98]], [.str [99]], [.str [120]], [.str [121]], [.str [122]]] (some 6)], [.sl 1 [[.str [105, 100, 108, 101]], [.str [73, 100, 108, 101]], [.str [73, 68, 76, 69]], [.str [105, 95]], [.str [105, 95, 95]], [.str [105, 48]]] (some 6)]] : List (List AV)).getD q [] = [.sl 1 (strs (stsN.getD q [])) (some 6)] ∧ (stsN.getD q []).length = 6 := by
 rcases lt3 h with rfl|rfl|rfl <;> exact ⟨rfl, rfl⟩
theorem qbW9 (a b : Nat) (h : a < 256) (hb : 0 < b) : ((IntKind.u8.wrap ((a : Int).tdiv b)).tmod 3) = ((a / b % 3 : Nat) : Int) := by
 have h1 : a / b ≤ a := Nat.div_le_self a b
 rw [show ((a : Int).tdiv b) = ((a / b : Nat) : Int) from rfl]
 generalize a / b = r at *
 have : IntKind.u8.wrap (r : Int) = (r : Int) := by
  rw [IntKind.wrap_u8]; omega
 rw [this]; rfl
theorem kT0 (l : List Bs) (k : Nat) : (strs l).take k = strs (l.take k) := by simp [strs]
theorem of21 (x : ND) (z : Nat) (c : Option Nat) (hx : x.m.Ok) (hn : x.nm < 256) (hz : x.m.es = [] ∨ z = 1) : PC Tryz.prog G0 21 [.agg (ndC x z c)] (.agg x.G.A) := by
 have hM := mOf9 x.m z c hx hz
 have hie : ∀ p, idsE p (u16s x.m.es) = true := fun p => kS0 _ _
 have hir : ∀ p, idsE p (qe0 (x.m.rows x.m.n)) = true := fun p => kf0 _ _
 have hrl := vr0 (x.m.rows x.m.n)
 rw [MD.rows_len] at hrl
 have bn : 1 ≤ x.m.n ∧ x.m.n ≤ 6 := x.m.bn
 have bI : 1 ≤ x.m.I ∧ x.m.I ≤ 3 := x.m.bI
 have bO : 1 ≤ x.m.O ∧ x.m.O ≤ 3 := x.m.bO
 have h0 : ((x.nm : Int).tmod 3) = ((x.nm % 3 : Nat) : Int) := rfl
 have h1 : ((IntKind.u8.wrap ((x.nm : Int).tdiv 3)).tmod 3) = ((x.nm / 3 % 3 : Nat) : Int) := qbW9 x.nm 3 hn (by decide)
 have h2 : ((IntKind.u8.wrap ((x.nm : Int).tdiv 9)).tmod 3) = ((x.nm / 9 % 3 : Nat) : Int) := qbW9 x.nm 9 hn (by decide)
 have h3 : ((IntKind.u8.wrap ((x.nm : Int).tdiv 27)).tmod 3) = ((x.nm / 27 % 3 : Nat) : Int) := qbW9 x.nm 27 hn (by decide)
 have q0 : x.nm % 3 < 3 := Nat.mod_lt _ (by decide)
 have q1 : x.nm / 3 % 3 < 3 := Nat.mod_lt _ (by decide)
 have q2 : x.nm / 9 % 3 < 3 := Nat.mod_lt _ (by decide)
 have q3 : x.nm / 27 % 3 < 3 := Nat.mod_lt _ (by decide)
 have g0 := gN q0
 obtain ⟨g1, l1⟩ := gI q1
 obtain ⟨g2, l2⟩ := gO q2
 obtain ⟨g3, l3⟩ := gS q3
 unfold ndC mdC mA ND.G GS.A at *
 simp only [List.cons_append, List.nil_append]
 generalize hnm : x.nm = nm at *
 generalize nm % 3 = w0 at *
 generalize nm / 3 % 3 = w1 at *
 generalize nm / 9 % 3 = w2 at *
 generalize nm / 27 % 3 = w3 at *
 generalize nmsN.getD w0 [] = NM at *
 generalize insN.getD w1 [] = LI at *
 generalize outsN.getD w2 [] = LO at *
 generalize stsN.getD w3 [] = LS at *
 have k1 := xb0 LI
 have k2 := xb0 LO
 have k3 := xb0 LS
 rw [l1] at k1
 rw [l2] at k2
 rw [l3] at k3
 generalize u16s x.m.es = E at *
 generalize qe0 (x.m.rows x.m.n) = RW at *
 generalize x.m.I = I at *
 generalize x.m.O = O at *
 generalize x.m.n = n at *
 refine qd0 1 75 [.cell 2 27] Tryz.func21 rfl rfl rfl (by simp) ?_
 intro s ⟨a0, hz⟩
 clear hz
 repeat' (first|(((first|(with_reducible refine vb0 (p := [0, 1, 1, 1, 1, 1, 1]) ?_)|refine nav ?_|(refine g0_ ?_; first|refine ka0 (dr := allQ) (p := [0, 1, 1]) [] [] [(8, 9)] rfl rfl mixed (by kernel_rfl) ?_|refine goD ?_))) <;> (try simp (disch := (first|exact discB|fail)) only [push_cast, simprocAttr, a0, h0, h1, h2, h3, g0, g1, g2, g3, k1, k2, k3]))|(with_reducible refine gG ?_ ?_)|((with_reducible refine And.intro (fun h => ?_) (fun h => ?_)) <;> try (exfalso; omega))|(with_reducible refine andG ?_)|(first|(refine ⟨_, _, qa0 (hM) (by (simp [idsL, idsE, AV.ids, hie, hir])) _, ?_⟩)|(refine ⟨_, qa0 (hM) (by (simp [idsL, idsE, AV.ids, hie, hir])) _, ?_⟩)|(refine ⟨_, fun _ => qa0 (hM) (by (simp [idsL, idsE, AV.ids, hie, hir])) _, ?_⟩))|simp (disch := (first|exact discB|fail)) only [push_cast, simprocAttr, a0, h0, h1, h2, h3, g0, g1, g2, g3, k1, k2, k3])
 refine Halt.mk ?_
 refine qA0 (by first|exact kb0|fail) (vk0 (b := 3) (i := 0) (j := 4) (sz := 1) (ty := 9) rfl rfl rfl) ?_
 refine qA0 trivial (vk0 (b := 3) (i := 0) (j := 5) (sz := 1) (ty := 9) rfl rfl rfl) ?_
 refine qA0 trivial (vk0 (b := 3) (i := 0) (j := 6) (sz := 1) (ty := 9) rfl rfl rfl) ?_
 repeat' (first|(((first|refine nav ?_|(refine g0_ ?_; first|refine ka0 (dr := allQ) (p := [0, 1, 1]) [] [] [(8, 9)] rfl rfl mixed (by kernel_rfl) ?_|refine goD ?_))) <;> (try simp (disch := (first|exact discB|fail)) only [push_cast, simprocAttr, a0, h0, h1, h2, h3, g0, g1, g2, g3, k1, k2, k3]))|(with_reducible refine gG ?_ ?_)|((with_reducible refine And.intro (fun h => ?_) (fun h => ?_)) <;> try (exfalso; omega))|(with_reducible refine andG ?_)|(first|(refine ⟨_, _, qa0 (hM) (by (simp [idsL, idsE, AV.ids, hie, hir])) _, ?_⟩)|(refine ⟨_, qa0 (hM) (by (simp [idsL, idsE, AV.ids, hie, hir])) _, ?_⟩)|(refine ⟨_, fun _ => qa0 (hM) (by (simp [idsL, idsE, AV.ids, hie, hir])) _, ?_⟩))|simp (disch := (first|exact discB|fail)) only [push_cast, simprocAttr, a0, h0, h1, h2, h3, g0, g1, g2, g3, k1, k2, k3])
 refine ⟨⟨hir _, ?_, ?_, ?_⟩, kT0 _ _, kT0 _ _, by rw [hrl, kT0]⟩ <;> (rw [kT0]; exact vbj9 _ _)
end Go.Proofs
namespace Go.Proofs
open Go Go.V
set_option linter.unusedVariables false
set_option linter.unusedSimpArgs false
set_option maxHeartbeats 0
set_option maxRecDepth 100000
def u8s (w : List Nat) : List (List AV) := w.map fun n => [.int .u8 (n : Nat)]
theorem vbx9 (w : List Nat) : (u8s w).length = w.length := by simp [u8s]
theorem vcq9 (w : List Nat) (k : Nat) (h : k < w.length) : (u8s w).getD k [] = [.int .u8 (w.getD k 0 : Nat)] := by simp [u8s, h]
theorem kcq9 (p : Nat → Bool) (w : List Nat) : idsE p (u8s w) = true := zt0 _ _ fun x => by simp [idsL, AV.ids]
def ofW (w : List Nat) (A : Nat) : List Int := (w.take 12).map fun n => ((n % A : Nat) : Int)
theorem kE0 (w : List Nat) (A : Nat) : (ofW w A).length = min 12 w.length := by simp [ofW]
theorem zcO9 {w : List Nat} {A : Nat} (hA : 0 < A) : ∀ x ∈ ofW w A, 0 ≤ x ∧ x < A := fun x hx => by
 obtain ⟨n, _, rfl⟩ := List.mem_map.1 hx
 have := Nat.mod_lt n hA
 omega
theorem vdA9 (z : Nat) (w : List Nat) (c : Option Nat) (A : Nat) (hz : w = [] ∨ z = 1) (hA : 0 < A) (hA2 : A ≤ 1000000) (hw : ∀ n ∈ w, n < 256) (hl : w.length ≤ 9223372036854775807) : PC Tryz.prog G0 27 [.agg [.sl z (u8s w) c], .int .i64 (A : Int)] (.sl 1 (ints (ofW w A)) none) := by
 have hL := vbx9 w
 have hA0 : ¬ (A : Int) = 0 := by omega
 refine qd0 1 30 [.tmp 4] Tryz.func27 rfl rfl rfl (by simp) ?_
 intro s ⟨a0, a1, hz⟩
 simp only [Nat.zero_add, Nat.reduceAdd] at a1
 clear hz
 repeat' (first|refine nav ?_|(refine g0_ ?_; refine goD ?_)|(with_reducible refine gG ?_ ?_)|((with_reducible refine And.intro (fun h => ?_) (fun h => ?_)) <;> try (exfalso; omega))|(with_reducible refine andG ?_)|fail|simp (disch := (first|exact discB|fail)) only [push_cast, simprocAttr, a0, a1, hL])
 refine qA0 (by first|exact kb0|fail) (vF0 (t := 5) (z := 0) (sz := 1) (ty := 3) rfl) ?_
 refine go_loop rfl (fun mz s' H' => ∃ k : Nat, k ≤ (min 12 w.length) ∧ mz = (min 12 w.length) - k ∧ H' = [.row 1 59 [[.sl z (u8s w) c]], .row 1 3 (ints ((ofW w A).take k))] ∧ s' 1 = .int .i64 A ∧ s' 2 = .ptr 0 0 0 1 ∧ s' 5 = .own 1 k k none ∧ s' 6 = .int .i64 k) (m := (min 12 w.length)) (by first|exact kb0|fail) (Weak.refl _ _) ⟨0, by omega, by omega, rfl, ?_⟩ ?_
 ·simp (disch := (first|exact discB|fail)) only [push_cast, simprocAttr, a0, a1, hL]
 ·rintro mz s' H' ⟨k, hk, rfl, rfl, b1, b2, b5, b6⟩
  have hlk : (ints ((ofW w A).take k)).length = k := by rw [ke0, List.length_take, kE0]; omega
  rcases Nat.lt_or_ge k (min 12 w.length) with hlt|hge
  ·have hlt1 : k < w.length := by omega
   have hlt2 : (k : Int) < 12 := by omega
   obtain rfl := hz.resolve_left (by intro h; rw [h] at hlt1; simp at hlt1)
   have e1 := vcq9 w k hlt1
   have hb := hw _ (vl0 0 hlt1)
   have hsn : ints ((ofW w A).take (k + 1)) = ints ((ofW w A).take k) ++ [[.int .i64 (((w.getD k 0 : Nat) : Int) % (A : Int))]] := by
    have hk : k < (ofW w A).length := by rw [kE0]; omega
    rw [List.take_succ_eq_append_getElem hk]
    simp only [ints, List.map_append, List.map_cons, List.map_nil]
    congr 3
    simp [ofW, hlt1]
   generalize w.getD k 0 = b at *
   have hmod : ((b : Int).tmod (A : Int)) = ((b % A : Nat) : Int) := rfl
   have hmb := Nat.mod_lt b hA
   repeat' (first|refine nav ?_|(refine g0_ ?_; refine goD ?_)|(with_reducible refine gG ?_ ?_)|((with_reducible refine And.intro (fun h => ?_) (fun h => ?_)) <;> try (exfalso; omega))|(with_reducible refine andG ?_)|fail|simp (disch := (first|exact discB|fail)) only [push_cast, simprocAttr, b1, b2, b5, b6, e1, hL, hlk, hlt2, hmod, hA0])
   rw [← hsn]
   refine wb0 ((min 12 w.length) - (k + 1)) (by omega) (by first|exact kb0|fail) ⟨k + 1, by omega, rfl, rfl, ?_⟩
   simp (disch := (first|exact discB|fail)) only [push_cast, simprocAttr, b1, b2, b5, b6, e1, hL, hlk, hlt2, hmod, hA0]
  ·have hk : k = min 12 w.length := by omega
   have hno : ¬ ((k : Int) < w.length ∧ (k : Int) < 12) := by omega
   have htk : (ofW w A).take k = ofW w A := List.take_of_length_le (by rw [kE0]; omega)
   rw [htk] at *
   rcases Nat.lt_or_ge k w.length with h5|h5
   ·have h6 : ¬ (k : Int) < 12 := by omega
    repeat' (first|refine nav ?_|(refine g0_ ?_; refine goD ?_)|(with_reducible refine gG ?_ ?_)|((with_reducible refine And.intro (fun h => ?_) (fun h => ?_)) <;> try (exfalso; omega))|(with_reducible refine andG ?_)|fail|simp (disch := (first|exact discB|fail)) only [push_cast, simprocAttr, b1, b2, b5, b6, hL, hlk, h6])
    have hk2 : (ints (ofW w A)).length = k := by rw [ke0, kE0]; omega
    exact ⟨⟨by rw [kE0]; omega, by rw [← hk2, List.take_length]; exact zaD9 _ _⟩, by rw [← hk2, List.take_length]⟩
   ·have h6 : ¬ (k : Int) < w.length := by omega
    repeat' (first|refine nav ?_|(refine g0_ ?_; refine goD ?_)|(with_reducible refine gG ?_ ?_)|((with_reducible refine And.intro (fun h => ?_) (fun h => ?_)) <;> try (exfalso; omega))|(with_reducible refine andG ?_)|fail|simp (disch := (first|exact discB|fail)) only [push_cast, simprocAttr, b1, b2, b5, b6, hL, hlk, h6])
    have hk2 : (ints (ofW w A)).length = k := by rw [ke0, kE0]; omega
    exact ⟨⟨by rw [kE0]; omega, by rw [← hk2, List.take_length]; exact zaD9 _ _⟩, by rw [← hk2, List.take_length]⟩
def nxt (l : List Row) (q a : Int) : Edg := if q < 0 then (-1, -1) else (l.getD q.toNat ([], none)).1.getD a.toNat (0, 0)
def runM (l : List Row) : Int → List Int → List Int
 | _, [] => []
 | q, a :: w => (nxt l q a).2 :: runM l (nxt l q a).1 w
theorem qdd9 (i o : Int) (l : List Row) (z : Nat) (c : Option Nat) (q a : Int) (hz : l = [] ∨ z = 1) (hl : l.length ≤ 1000000) (hq : q = -1 ∨ (0 ≤ q ∧ q < l.length)) (ha : 0 ≤ q → 0 ≤ a ∧ a < (l.getD q.toNat ([], none)).1.length) : PC Tryz.prog G0 77 [.agg [.int .i64 i, .int .i64 o, .sl z (qe0 l) c], .int .i64 q, .int .i64 a] (.agg (eA (nxt l q a))) := by
 have hR := vr0 l
 unfold nxt
 rcases hq with rfl|⟨h0, h1⟩
 ·rw [if_pos (by decide)]
  unfold eA
  refine qd0 0 18 [.cell 6 70] Tryz.func77 rfl rfl rfl (by simp) ?_
  intro s ⟨a0, a1, a2, hz⟩
  simp only [Nat.zero_add, Nat.reduceAdd] at a1 a2
  clear hz
  repeat' (first|refine nav ?_|(refine g0_ ?_; refine goD ?_)|(with_reducible refine gG ?_ ?_)|((with_reducible refine And.intro (fun h => ?_) (fun h => ?_)) <;> try (exfalso; omega))|(with_reducible refine andG ?_)|fail|simp (disch := (first|exact discB|fail)) only [push_cast, simprocAttr, a0, a1, a2])
 ·rw [if_neg (by omega)]
  obtain ⟨qn, rfl⟩ : ∃ n : Nat, q = n := ⟨q.toNat, by omega⟩
  obtain ⟨ha0, ha1⟩ := ha h0
  obtain ⟨an, rfl⟩ : ∃ n : Nat, a = n := ⟨a.toNat, by omega⟩
  simp only [Int.toNat_natCast] at *
  have hlt : qn < l.length := by omega
  obtain rfl := hz.resolve_left (by intro h; rw [h] at hlt; simp at hlt)
  have e1 := qz0 l qn hlt
  generalize (l.getD qn ([], none)).2 = cc at *
  generalize (l.getD qn ([], none)).1 = r at *
  have hlt2 : an < r.length := by omega
  have e2 := kv0 r an hlt2
  have hrl := zi0 r
  generalize r.getD an (0, 0) = e at *
  unfold eA at *
  have hq0 : ¬ (qn : Int) < 0 := by omega
  refine qd0 0 18 [.cell 6 70] Tryz.func77 rfl rfl rfl (by simp) ?_
  intro s ⟨a0, a1, a2, hz⟩
  simp only [Nat.zero_add, Nat.reduceAdd] at a1 a2
  clear hz
  repeat' (first|refine nav ?_|(refine g0_ ?_; refine goD ?_)|(with_reducible refine gG ?_ ?_)|((with_reducible refine And.intro (fun h => ?_) (fun h => ?_)) <;> try (exfalso; omega))|(with_reducible refine andG ?_)|fail|simp (disch := (first|exact discB|fail)) only [push_cast, simprocAttr, a0, a1, a2, hR, e1, e2, hrl, hq0])
  exact hlt2
theorem kbx9 (l : List Int) (x : Int) : ints l ++ [[.int .i64 x]] = ints (l ++ [x]) := by simp [ints]
def stM (l : List Row) : Int → List Int → Int
 | q, [] => q
 | q, a :: w => stM l (nxt l q a).1 w
theorem wbm9 (l : List Row) : ∀ (a b : List Int) (q : Int), runM l q (a ++ b) = runM l q a ++ runM l (stM l q a) b
 | [], b, q => rfl
 | x :: a, b, q => by rw [List.cons_append, runM, runM, stM, wbm9 l a b, List.cons_append]
theorem zbW9 (l : List Row) : ∀ (a b : List Int) (q : Int), stM l q (a ++ b) = stM l (stM l q a) b
 | [], b, q => rfl
 | x :: a, b, q => by rw [List.cons_append, stM, stM, zbW9 l a b]
theorem vaE9 (l : List Row) : ∀ (w : List Int) (q : Int), (runM l q w).length = w.length
 | [], q => rfl
 | x :: w, q => by rw [runM, List.length_cons, List.length_cons, vaE9 l w]
theorem zdd9 {i o : Int} {l : List Row} (hm : qk0 i o l = 0) {q a : Int} (hq : q = -1 ∨ (0 ≤ q ∧ q < l.length)) (ha : 0 ≤ a ∧ a < i) : ((nxt l q a).1 = -1 ∨ (0 ≤ (nxt l q a).1 ∧ (nxt l q a).1 < l.length)) ∧ ((nxt l q a).2 = -1 ∨ (0 ≤ (nxt l q a).2 ∧ (nxt l q a).2 < o)) := by
 obtain ⟨m1, m2, m3, m4, m5⟩ := xg0 hm
 unfold nxt
 split
 ·exact ⟨.inl rfl, .inl rfl⟩
 ·have hq2 : 0 ≤ q ∧ q < l.length := by omega
  have h1 := m4 q.toNat (by omega)
  have h2 := fitE_iff.1 (List.all_eq_true.1 (m5 q.toNat (by omega)) _ (vl0 (0, 0) (show a.toNat < _ by omega)))
  rcases h2 with h2|h2
  ·rw [h2]; exact ⟨.inl rfl, .inl rfl⟩
  ·exact ⟨.inr ⟨h2.1, h2.2.1⟩, .inr ⟨h2.2.2.1, h2.2.2.2⟩⟩
theorem xbW9 {i o : Int} {l : List Row} (hm : qk0 i o l = 0) : ∀ (w : List Int) (q : Int), (∀ a ∈ w, 0 ≤ a ∧ a < i) → (q = -1 ∨ (0 ≤ q ∧ q < l.length)) → (stM l q w = -1 ∨ (0 ≤ stM l q w ∧ stM l q w < l.length)) ∧ ∀ x ∈ runM l q w, x = -1 ∨ (0 ≤ x ∧ x < o)
 | [], q, _, hq => ⟨hq, fun x hx => by cases hx⟩
 | a :: w, q, hw, hq => by
  have h1 := zdd9 hm hq (hw a List.mem_cons_self)
  have h2 := xbW9 hm w (nxt l q a).1 (fun b hb => hw b (List.mem_cons_of_mem _ hb)) h1.1
  refine ⟨h2.1, fun x hx => ?_⟩
  rw [runM] at hx
  rcases List.mem_cons.1 hx with rfl|hx
  ·exact h1.2
  ·exact h2.2 x hx
theorem wbW9 (w : List Int) (k : Nat) (h : k < w.length) : w.take (k + 1) = w.take k ++ [w.getD k 0] := by
 rw [List.take_succ_eq_append_getElem h, List.getD_eq_getElem?_getD, List.getElem?_eq_getElem h]; rfl
theorem kdA9 (i o : Int) (l : List Row) (z : Nat) (c : Option Nat) (w : List Int) (zw : Nat) (cw : Option Nat) (hm : qk0 i o l = 0) (hz : l = [] ∨ z = 1) (hzw : w = [] ∨ zw = 1) (hw : ∀ a ∈ w, 0 ≤ a ∧ a < i) (hwl : w.length ≤ 1000000) : PC Tryz.prog G0 30 [.agg [.int .i64 i, .int .i64 o, .sl z (qe0 l) c], .int .i64 0, .sl zw (ints w) cw] (.sl 1 (ints (runM l 0 w)) none) := by
 obtain ⟨m1, m2, m3, m4, m5⟩ := xg0 hm
 have hL := ke0 w
 have hir : ∀ p, idsE p (qe0 l) = true := fun p => kf0 _ _
 refine qd0 1 31 [.tmp 6] Tryz.func30 rfl rfl rfl (by simp) ?_
 intro s ⟨a0, a1, a2, hz⟩
 simp only [Nat.zero_add, Nat.reduceAdd] at a1 a2
 clear hz
 repeat' (first|(first|refine nav ?_|(refine g0_ ?_; first|refine ka0 (dr := allQ) (p := [0, 0, 0, 1, 0, 0, 1, 0, 1, 1]) [] [] [(7, 8)] rfl rfl mixed (by kernel_rfl) ?_|refine goD ?_))|(with_reducible refine gG ?_ ?_)|((with_reducible refine And.intro (fun h => ?_) (fun h => ?_)) <;> try (exfalso; omega))|(with_reducible refine andG ?_)|fail|simp (disch := (first|exact discB|fail)) only [push_cast, simprocAttr, a0, a1, a2, hL])
 refine qA0 (by first|exact kb0|fail) (vF0 (t := 7) (z := 0) (sz := 1) (ty := 3) rfl) ?_
 refine go_loop rfl (fun mz s' H' => ∃ k : Nat, k ≤ w.length ∧ mz = w.length - k ∧ H' = [.row 3 24 [[.int .i64 i, .int .i64 o, .sl z (qe0 l) c]], .row 1 3 (ints (runM l 0 (w.take k)))] ∧ s' 1 = .int .i64 (stM l 0 (w.take k)) ∧ s' 2 = .sl zw (ints w) cw ∧ s' 3 = .ptr 0 0 0 1 ∧ s' 7 = .own 1 k k none ∧ s' 8 = .int .i64 k) (m := w.length) (by first|exact kb0|fail) (Weak.refl _ _) ⟨0, by omega, by omega, rfl, ?_⟩ ?_
 ·simp (disch := (first|exact discB|fail)) only [push_cast, simprocAttr, a0, a1, a2, hL]
  all_goals rfl
 ·rintro mz s' H' ⟨k, hk, rfl, rfl, b1, b2, b3, b7, b8⟩
  have hlk : (ints (runM l 0 (w.take k))).length = k := by rw [ke0, vaE9, List.length_take]; omega
  rcases Nat.lt_or_ge k w.length with hlt|hge
  ·obtain rfl := hzw.resolve_left (by intro h; rw [h] at hlt; simp at hlt)
   have e1 := kr0 w k hlt
   have hv := hw _ (vl0 0 hlt)
   have hq := (xbW9 hm (w.take k) 0 (fun a ha => hw a (List.mem_of_mem_take ha)) (.inr (by omega))).1
   have hN := qdd9 i o l z c (stM l 0 (w.take k)) (w.getD k 0) hz (by omega) hq (fun h => ⟨hv.1, by rw [m4 _ (by omega)]; exact hv.2⟩)
   have hs1 : stM l 0 (w.take (k + 1)) = (nxt l (stM l 0 (w.take k)) (w.getD k 0)).1 := by rw [wbW9 w k hlt, zbW9]; rfl
   have hs2 : ints (runM l 0 (w.take (k + 1))) = ints (runM l 0 (w.take k)) ++ [[.int .i64 (nxt l (stM l 0 (w.take k)) (w.getD k 0)).2]] := by rw [wbW9 w k hlt, wbm9, kbx9]; rfl
   generalize nxt l (stM l 0 (w.take k)) (w.getD k 0) = e at *
   obtain ⟨e1', e2'⟩ := e
   generalize w.getD k 0 = v at *
   generalize stM l 0 (w.take k) = q at *
   unfold eA at hN
   repeat' (first|(first|refine nav ?_|(refine g0_ ?_; first|refine ka0 (dr := allQ) (p := [0, 0, 0, 1, 0, 0, 1, 0, 1, 1]) [] [] [(7, 8)] rfl rfl mixed (by kernel_rfl) ?_|refine goD ?_))|(with_reducible refine gG ?_ ?_)|((with_reducible refine And.intro (fun h => ?_) (fun h => ?_)) <;> try (exfalso; omega))|(with_reducible refine andG ?_)|(first|(refine ⟨_, _, qa0 (hN) (by (simp [idsL, idsE, AV.ids, hir])) _, ?_⟩)|(refine ⟨_, qa0 (hN) (by (simp [idsL, idsE, AV.ids, hir])) _, ?_⟩)|(refine ⟨_, fun _ => qa0 (hN) (by (simp [idsL, idsE, AV.ids, hir])) _, ?_⟩))|simp (disch := (first|exact discB|fail)) only [push_cast, simprocAttr, b1, b2, b3, b7, b8, e1, hL, hlk])
   rw [← hs2]
   refine kh0 (w.length - (k + 1)) 2 (by omega) (by first|exact kb0|fail) (by omega) (by simp) (by simp [Blk.below, idsE, idsL, AV.ids, hir]) ⟨k + 1, by omega, rfl, rfl, ?_⟩
   simp (disch := (first|exact discB|fail)) only [push_cast, simprocAttr, b1, b2, b3, b7, b8, e1, hL, hlk]
   exact ⟨by rw [hs1]; rfl, by simp [qm0, AV.ids], rfl, rfl, rfl⟩
  ·obtain rfl : k = w.length := by omega
   rw [List.take_length] at *
   repeat' (first|(first|refine nav ?_|(refine g0_ ?_; first|refine ka0 (dr := allQ) (p := [0, 0, 0, 1, 0, 0, 1, 0, 1, 1]) [] [] [(7, 8)] rfl rfl mixed (by kernel_rfl) ?_|refine goD ?_))|(with_reducible refine gG ?_ ?_)|((with_reducible refine And.intro (fun h => ?_) (fun h => ?_)) <;> try (exfalso; omega))|(with_reducible refine andG ?_)|fail|simp (disch := (first|exact discB|fail)) only [push_cast, simprocAttr, b1, b2, b3, b7, b8, hL, hlk])
end Go.Proofs
