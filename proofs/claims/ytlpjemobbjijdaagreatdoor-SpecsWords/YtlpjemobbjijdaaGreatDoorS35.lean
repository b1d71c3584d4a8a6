import Derived.Test.YtlpjemobbjijdaaGreatDoorS27
import Derived.Test.YtlpjemobbjijdaaGreatDoorV33
import Derived.Test.YtlpjemobbjijdaaGreatDoorS29
namespace Go.Proofs
open Go Go.V
set_option linter.unusedVariables false
set_option linter.unusedSimpArgs false
set_option maxHeartbeats 0
set_option maxRecDepth 100000
structure ND where
 m : MD
 nm : Nat
def nmsN : List Bs := [[109], [76, 97, 109, 112, 95, 50], [97, 98, 99, 100, 101, 102, 103, 104, 105, 106, 107, 108, 109, 110, 111, 112]]
def insN : List (List Bs) := [[[97], [98], [99]], [[112, 114, 101, 115, 115], [116, 105, 99, 107], [115, 48]], [[69, 110, 100], [120], [73, 110, 112, 117, 116, 115]]]
def outsN : List (List Bs) := [[[120], [121], [122]], [[97], [111, 110], [111, 102, 102]], [[111, 49], [111, 49, 48], [111]]]
def stsN : List (List Bs) := [[[115, 48], [115, 49], [115, 50], [115, 51], [115, 52], [115, 53]], [[97], [98], [99], [120], [121], [122]], [[105, 100, 108, 101], [73, 100, 108, 101], [73, 68, 76, 69], [105, 95], [105, 95, 95], [105, 48]]]
def ND.G (x : ND) : GS := ⟨nmsN.getD (x.nm % 3) [], x.m.I, x.m.O, 1, x.m.rows x.m.n, none, 1, (insN.getD (x.nm / 3 % 3) []).take x.m.I, none, 1, (outsN.getD (x.nm / 9 % 3) []).take x.m.O, none, 1, (stsN.getD (x.nm / 27 % 3) []).take x.m.n, none⟩
def ndC (x : ND) (z : Nat) (c : Option Nat) : List AV := mdC x.m z c ++ [.int .u8 x.nm]
theorem lt3 {q : Nat} (h : q < 3) : q = 0 ∨ q = 1 ∨ q = 2 := by omega
theorem gN {q : Nat} (h : q < 3) : ([[.str [109]], [.str [76, 97, 109, 112, 95, 50]], [.str [97, 98, 99, 100, 101, 102, 103, 104, 105, 106, 107, 108, 109, 110, 111, 112]]] : List (List AV)).getD q [] = [.str (nmsN.getD q [])] := by
 rcases lt3 h with rfl|rfl|rfl <;> rfl
theorem gI {q : Nat} (h : q < 3) : ([[.sl 1 [[.str [97]], [.str [98]], [.str [99]]] (some 3)], [.sl 1 [[.str [112, 114, 101, 115, 115]], [.str [116, 105, 99, 107]], [.str [115, 48]]] (some 3)], [.sl 1 [[.str [69, 110, 100]], [.str [120]], [.str [73, 110, 112, 117, 116, 115]]] (some 3)]] : List (List AV)).getD q [] = [.sl 1 (strs (insN.getD q [])) (some 3)] ∧ (insN.getD q []).length = 3 := by
 rcases lt3 h with rfl|rfl|rfl <;> exact ⟨rfl, rfl⟩
theorem gO {q : Nat} (h : q < 3) : ([[.sl 1 [[.str [120]], [.str [121]], [.str [122]]] (some 3)], [.sl 1 [[.str [97]], [.str [111, 110]], [.str [111, 102, 102]]] (some 3)], [.sl 1 [[.str [111, 49]], [.str [111, 49, 48]], [.str [111]]] (some 3)]] : List (List AV)).getD q [] = [.sl 1 (strs (outsN.getD q [])) (some 3)] ∧ (outsN.getD q []).length = 3 := by
 rcases lt3 h with rfl|rfl|rfl <;> exact ⟨rfl, rfl⟩
theorem gS {q : Nat} (h : q < 3) : ([[.sl 1 [[.str [115, 48]], [.str [115, 49]], [.str [115, 50]], [.str [115, 51]], [.str [115, 52]], [.str [115, 53]]] (some 6)], [.sl 1 [[.str [97]], [.str [98]], [.str [99]], [.str [120]], [.str [121]], [.str [122]]] (some 6)], [.sl 1 [[.str [105, 100, 108, 101]], [.str [73, 100, 108, 101]], [.str [73, 68, 76, 69]], [.str [105, 95]], [.str [105, 95, 95]], [.str [105, 48]]] (some 6)]] : List (List AV)).getD q [] = [.sl 1 (strs (stsN.getD q [])) (some 6)] ∧ (stsN.getD q []).length = 6 := by
 rcases lt3 h with rfl|rfl|rfl <;> exact ⟨rfl, rfl⟩
theorem wcb9 (a b : Nat) (h : a < 256) (hb : 0 < b) : ((IntKind.u8.wrap ((a : Int).tdiv b)).tmod 3) = ((a / b % 3 : Nat) : Int) := by
 have h1 : a / b ≤ a := Nat.div_le_self a b
 rw [show ((a : Int).tdiv b) = ((a / b : Nat) : Int) from rfl]
 generalize a / b = r at *
 have : IntKind.u8.wrap (r : Int) = (r : Int) := by
  rw [IntKind.wrap_u8]; omega
 rw [this]; rfl
theorem zW0 (l : List Bs) (k : Nat) : (strs l).take k = strs (l.take k) := by simp [strs]
theorem of21 (x : ND) (z : Nat) (c : Option Nat) (hx : x.m.Ok) (hn : x.nm < 256) (hz : x.m.es = [] ∨ z = 1) : PC Tryz.prog G0 21 [.agg (ndC x z c)] (.agg x.G.A) := by
 have hM := mOf9 x.m z c hx hz
 have hie : ∀ p, idsE p (u16s x.m.es) = true := fun p => qV0 _ _
 have hir : ∀ p, idsE p (qf0 (x.m.rows x.m.n)) = true := fun p => qg0 _ _
 have hrl := qx0 (x.m.rows x.m.n)
 rw [MD.rows_len] at hrl
 have bn : 1 ≤ x.m.n ∧ x.m.n ≤ 6 := x.m.bn
 have bI : 1 ≤ x.m.I ∧ x.m.I ≤ 3 := x.m.bI
 have bO : 1 ≤ x.m.O ∧ x.m.O ≤ 3 := x.m.bO
 have h0 : ((x.nm : Int).tmod 3) = ((x.nm % 3 : Nat) : Int) := rfl
 have h1 : ((IntKind.u8.wrap ((x.nm : Int).tdiv 3)).tmod 3) = ((x.nm / 3 % 3 : Nat) : Int) := wcb9 x.nm 3 hn (by decide)
 have h2 : ((IntKind.u8.wrap ((x.nm : Int).tdiv 9)).tmod 3) = ((x.nm / 9 % 3 : Nat) : Int) := wcb9 x.nm 9 hn (by decide)
 have h3 : ((IntKind.u8.wrap ((x.nm : Int).tdiv 27)).tmod 3) = ((x.nm / 27 % 3 : Nat) : Int) := wcb9 x.nm 27 hn (by decide)
 have q0 : x.nm % 3 < 3 := Nat.mod_lt _ (by decide)
 have q1 : x.nm / 3 % 3 < 3 := Nat.mod_lt _ (by decide)
 have q2 : x.nm / 9 % 3 < 3 := Nat.mod_lt _ (by decide)
 have q3 : x.nm / 27 % 3 < 3 := Nat.mod_lt _ (by decide)
 have g0 := gN q0
 obtain ⟨g1, l1⟩ := gI q1
 obtain ⟨g2, l2⟩ := gO q2
 obtain ⟨g3, l3⟩ := gS q3
 unfold ndC mdC mA ND.G GS.A at *
 simp only [List.cons_append, List.nil_append]
 generalize hnm : x.nm = nm at *
 generalize nm % 3 = w0 at *
 generalize nm / 3 % 3 = w1 at *
 generalize nm / 9 % 3 = w2 at *
 generalize nm / 27 % 3 = w3 at *
 generalize nmsN.getD w0 [] = NM at *
 generalize insN.getD w1 [] = LI at *
 generalize outsN.getD w2 [] = LO at *
 generalize stsN.getD w3 [] = LS at *
 have k1 := wb0 LI
 have k2 := wb0 LO
 have k3 := wb0 LS
 rw [l1] at k1
 rw [l2] at k2
 rw [l3] at k3
 generalize u16s x.m.es = E at *
 generalize qf0 (x.m.rows x.m.n) = RW at *
 generalize x.m.I = I at *
 generalize x.m.O = O at *
 generalize x.m.n = n at *
 refine wc0 1 75 [.cell 2 27] Tryz.func21 rfl rfl rfl (by simp) ?_
 intro s ⟨a0, hz⟩
 clear hz
 repeat' (first|(((first|(with_reducible refine kb0 (p := [0, 1, 1, 1, 1, 1, 1]) ?_)|refine nav ?_|(refine g0_ ?_; first|refine xb0 (dr := allQ) (p := [0, 1, 1]) [] [] [(8, 9)] rfl rfl mixed (by kernel_rfl) ?_|refine goD ?_))) <;> (try simp (disch := (first|exact discB|fail)) only [push_cast, simprocAttr, a0, h0, h1, h2, h3, g0, g1, g2, g3, k1, k2, k3]))|(with_reducible refine gG ?_ ?_)|((with_reducible refine And.intro (fun h => ?_) (fun h => ?_)) <;> try (exfalso; omega))|(with_reducible refine andG ?_)|(first|(refine ⟨_, _, qa0 (hM) (by (simp [idsL, idsE, AV.ids, hie, hir])) _, ?_⟩)|(refine ⟨_, qa0 (hM) (by (simp [idsL, idsE, AV.ids, hie, hir])) _, ?_⟩)|(refine ⟨_, fun _ => qa0 (hM) (by (simp [idsL, idsE, AV.ids, hie, hir])) _, ?_⟩))|simp (disch := (first|exact discB|fail)) only [push_cast, simprocAttr, a0, h0, h1, h2, h3, g0, g1, g2, g3, k1, k2, k3])
 refine Halt.mk ?_
 refine kx0 (by first|exact vb0|fail) (wk0 (b := 3) (i := 0) (j := 4) (sz := 1) (ty := 9) rfl rfl rfl) ?_
 refine kx0 trivial (wk0 (b := 3) (i := 0) (j := 5) (sz := 1) (ty := 9) rfl rfl rfl) ?_
 refine kx0 trivial (wk0 (b := 3) (i := 0) (j := 6) (sz := 1) (ty := 9) rfl rfl rfl) ?_
 repeat' (first|(((first|refine nav ?_|(refine g0_ ?_; first|refine xb0 (dr := allQ) (p := [0, 1, 1]) [] [] [(8, 9)] rfl rfl mixed (by kernel_rfl) ?_|refine goD ?_))) <;> (try simp (disch := (first|exact discB|fail)) only [push_cast, simprocAttr, a0, h0, h1, h2, h3, g0, g1, g2, g3, k1, k2, k3]))|(with_reducible refine gG ?_ ?_)|((with_reducible refine And.intro (fun h => ?_) (fun h => ?_)) <;> try (exfalso; omega))|(with_reducible refine andG ?_)|(first|(refine ⟨_, _, qa0 (hM) (by (simp [idsL, idsE, AV.ids, hie, hir])) _, ?_⟩)|(refine ⟨_, qa0 (hM) (by (simp [idsL, idsE, AV.ids, hie, hir])) _, ?_⟩)|(refine ⟨_, fun _ => qa0 (hM) (by (simp [idsL, idsE, AV.ids, hie, hir])) _, ?_⟩))|simp (disch := (first|exact discB|fail)) only [push_cast, simprocAttr, a0, h0, h1, h2, h3, g0, g1, g2, g3, k1, k2, k3])
 refine ⟨⟨hir _, ?_, ?_, ?_⟩, zW0 _ _, zW0 _ _, by rw [hrl, zW0]⟩ <;> (rw [zW0]; exact zbo9 _ _)
end Go.Proofs
namespace Go.Proofs
open Go Go.V
set_option linter.unusedVariables false
set_option linter.unusedSimpArgs false
set_option maxHeartbeats 0
set_option maxRecDepth 100000
def u8s (w : List Nat) : List (List AV) := w.map fun n => [.int .u8 (n : Nat)]
theorem qbC9 (w : List Nat) : (u8s w).length = w.length := by simp [u8s]
theorem wcv9 (w : List Nat) (k : Nat) (h : k < w.length) : (u8s w).getD k [] = [.int .u8 (w.getD k 0 : Nat)] := by simp [u8s, h]
theorem vcv9 (p : Nat → Bool) (w : List Nat) : idsE p (u8s w) = true := qt0 _ _ fun x => by simp [idsL, AV.ids]
def ofW (w : List Nat) (A : Nat) : List Int := (w.take 12).map fun n => ((n % A : Nat) : Int)
theorem vF0 (w : List Nat) (A : Nat) : (ofW w A).length = min 12 w.length := by simp [ofW]
theorem xcT9 {w : List Nat} {A : Nat} (hA : 0 < A) : ∀ x ∈ ofW w A, 0 ≤ x ∧ x < A := fun x hx => by
 obtain ⟨n, _, rfl⟩ := List.mem_map.1 hx
 have := Nat.mod_lt n hA
 omega
theorem qdH9 (z : Nat) (w : List Nat) (c : Option Nat) (A : Nat) (hz : w = [] ∨ z = 1) (hA : 0 < A) (hA2 : A ≤ 1000000) (hw : ∀ n ∈ w, n < 256) (hl : w.length ≤ 9223372036854775807) : PC Tryz.prog G0 27 [.agg [.sl z (u8s w) c], .int .i64 (A : Int)] (.sl 1 (ints (ofW w A)) none) := by
 have hL := qbC9 w
 have hA0 : ¬ (A : Int) = 0 := by omega
 refine wc0 1 30 [.tmp 4] Tryz.func27 rfl rfl rfl (by simp) ?_
 intro s ⟨a0, a1, hz⟩
 simp only [Nat.zero_add, Nat.reduceAdd] at a1
 clear hz
 repeat' (first|refine nav ?_|(refine g0_ ?_; refine goD ?_)|(with_reducible refine gG ?_ ?_)|((with_reducible refine And.intro (fun h => ?_) (fun h => ?_)) <;> try (exfalso; omega))|(with_reducible refine andG ?_)|fail|simp (disch := (first|exact discB|fail)) only [push_cast, simprocAttr, a0, a1, hL])
 refine kx0 (by first|exact vb0|fail) (qB0 (t := 5) (z := 0) (sz := 1) (ty := 3) rfl) ?_
 refine go_loop rfl (fun mz s' H' => ∃ k : Nat, k ≤ (min 12 w.length) ∧ mz = (min 12 w.length) - k ∧ H' = [.row 1 59 [[.sl z (u8s w) c]], .row 1 3 (ints ((ofW w A).take k))] ∧ s' 1 = .int .i64 A ∧ s' 2 = .ptr 0 0 0 1 ∧ s' 5 = .own 1 k k none ∧ s' 6 = .int .i64 k) (m := (min 12 w.length)) (by first|exact vb0|fail) (Weak.refl _ _) ⟨0, by omega, by omega, rfl, ?_⟩ ?_
 ·simp (disch := (first|exact discB|fail)) only [push_cast, simprocAttr, a0, a1, hL]
 ·rintro mz s' H' ⟨k, hk, rfl, rfl, b1, b2, b5, b6⟩
  have hlk : (ints ((ofW w A).take k)).length = k := by rw [kh0, List.length_take, vF0]; omega
  rcases Nat.lt_or_ge k (min 12 w.length) with hlt|hge
  ·have hlt1 : k < w.length := by omega
   have hlt2 : (k : Int) < 12 := by omega
   obtain rfl := hz.resolve_left (by intro h; rw [h] at hlt1; simp at hlt1)
   have e1 := wcv9 w k hlt1
   have hb := hw _ (xl0 0 hlt1)
   have hsn : ints ((ofW w A).take (k + 1)) = ints ((ofW w A).take k) ++ [[.int .i64 (((w.getD k 0 : Nat) : Int) % (A : Int))]] := by
    have hk : k < (ofW w A).length := by rw [vF0]; omega
    rw [List.take_succ_eq_append_getElem hk]
    simp only [ints, List.map_append, List.map_cons, List.map_nil]
    congr 3
    simp [ofW, hlt1]
   generalize w.getD k 0 = b at *
   have hmod : ((b : Int).tmod (A : Int)) = ((b % A : Nat) : Int) := rfl
   have hmb := Nat.mod_lt b hA
   repeat' (first|refine nav ?_|(refine g0_ ?_; refine goD ?_)|(with_reducible refine gG ?_ ?_)|((with_reducible refine And.intro (fun h => ?_) (fun h => ?_)) <;> try (exfalso; omega))|(with_reducible refine andG ?_)|fail|simp (disch := (first|exact discB|fail)) only [push_cast, simprocAttr, b1, b2, b5, b6, e1, hL, hlk, hlt2, hmod, hA0])
   rw [← hsn]
   refine xa0 ((min 12 w.length) - (k + 1)) (by omega) (by first|exact vb0|fail) ⟨k + 1, by omega, rfl, rfl, ?_⟩
   simp (disch := (first|exact discB|fail)) only [push_cast, simprocAttr, b1, b2, b5, b6, e1, hL, hlk, hlt2, hmod, hA0]
  ·have hk : k = min 12 w.length := by omega
   have hno : ¬ ((k : Int) < w.length ∧ (k : Int) < 12) := by omega
   have htk : (ofW w A).take k = ofW w A := List.take_of_length_le (by rw [vF0]; omega)
   rw [htk] at *
   rcases Nat.lt_or_ge k w.length with h5|h5
   ·have h6 : ¬ (k : Int) < 12 := by omega
    repeat' (first|refine nav ?_|(refine g0_ ?_; refine goD ?_)|(with_reducible refine gG ?_ ?_)|((with_reducible refine And.intro (fun h => ?_) (fun h => ?_)) <;> try (exfalso; omega))|(with_reducible refine andG ?_)|fail|simp (disch := (first|exact discB|fail)) only [push_cast, simprocAttr, b1, b2, b5, b6, hL, hlk, h6])
    have hk2 : (ints (ofW w A)).length = k := by rw [kh0, vF0]; omega
    exact ⟨⟨by rw [vF0]; omega, by rw [← hk2, List.take_length]; exact waH9 _ _⟩, by rw [← hk2, List.take_length]⟩
   ·have h6 : ¬ (k : Int) < w.length := by omega
    repeat' (first|refine nav ?_|(refine g0_ ?_; refine goD ?_)|(with_reducible refine gG ?_ ?_)|((with_reducible refine And.intro (fun h => ?_) (fun h => ?_)) <;> try (exfalso; omega))|(with_reducible refine andG ?_)|fail|simp (disch := (first|exact discB|fail)) only [push_cast, simprocAttr, b1, b2, b5, b6, hL, hlk, h6])
    have hk2 : (ints (ofW w A)).length = k := by rw [kh0, vF0]; omega
    exact ⟨⟨by rw [vF0]; omega, by rw [← hk2, List.take_length]; exact waH9 _ _⟩, by rw [← hk2, List.take_length]⟩
def nxt (l : List Row) (q a : Int) : Edg := if q < 0 then (-1, -1) else (l.getD q.toNat ([], none)).1.getD a.toNat (0, 0)
def runM (l : List Row) : Int → List Int → List Int
 | _, [] => []
 | q, a :: w => (nxt l q a).2 :: runM l (nxt l q a).1 w
def stM (l : List Row) : Int → List Int → Int
 | q, [] => q
 | q, a :: w => stM l (nxt l q a).1 w
theorem wdi9 (w : List Int) (k : Nat) (h : k < w.length) : w.take (k + 1) = w.take k ++ [w.getD k 0] := by
 rw [List.take_succ_eq_append_getElem h, List.getD_eq_getElem?_getD, List.getElem?_eq_getElem h]; rfl
end Go.Proofs
