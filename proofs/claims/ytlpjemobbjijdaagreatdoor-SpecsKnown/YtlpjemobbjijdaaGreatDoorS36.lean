import Derived.Test.YtlpjemobbjijdaaGreatDoorS26
import Derived.Test.YtlpjemobbjijdaaGreatDoorV33
import Derived.Test.YtlpjemobbjijdaaGreatDoorS30
namespace Go.Proofs
open Go Go.V
set_option linter.unusedVariables false
set_option linter.unusedSimpArgs false
set_option maxHeartbeats 0
set_option maxRecDepth 100000
structure ND where
 m : MD
 nm : Nat
def nmsN : List Bs := [[109], [76, 97, 109, 112, 95, 50], [97, 98, 99, 100, 101, 102, 103, 104, 105, 106, 107, 108, 109, 110, 111, 112]]
def insN : List (List Bs) := [[[97], [98], [99]], [[112, 114, 101, 115, 115], [116, 105, 99, 107], [115, 48]], [[69, 110, 100], [120], [73, 110, 112, 117, 116, 115]]]
def outsN : List (List Bs) := [[[120], [121], [122]], [[97], [111, 110], [111, 102, 102]], [[111, 49], [111, 49, 48], [111]]]
def stsN : List (List Bs) := [[[115, 48], [115, 49], [115, 50], [115, 51], [115, 52], [115, 53]], [[97], [98], [99], [120], [121], [122]], [[105, 100, 108, 101], [73, 100, 108, 101], [73, 68, 76, 69], [105, 95], [105, 95, 95], [105, 48]]]
def ND.G (x : ND) : GS := ⟨nmsN.getD (x.nm % 3) [], x.m.I, x.m.O, 1, x.m.rows x.m.n, none, 1, (insN.getD (x.nm / 3 % 3) []).take x.m.I, none, 1, (outsN.getD (x.nm / 9 % 3) []).take x.m.O, none, 1, (stsN.getD (x.nm / 27 % 3) []).take x.m.n, none⟩
def ndC (x : ND) (z : Nat) (c : Option Nat) : List AV := mdC x.m z c ++ [.int .u8 x.nm]
theorem lt3 {q : Nat} (h : q < 3) : q = 0 ∨ q = 1 ∨ q = 2 := by omega
theorem gN {q : Nat} (h : q < 3) : ([[.str [109]], [.str [76, 97, 109, 112, 95, 50]], [.str [97, 98, 99, 100, 101, 102, 103, 104, 105, 106, 107, 108, 109, 110, 111, 112]]] : List (List AV)).getD q [] = [.str (nmsN.getD q [])] := by
 rcases lt3 h with rfl|rfl|rfl <;> rfl
theorem gI {q : Nat} (h : q < 3) : ([[.sl 1 [[.str [97]], [.str [98]], [.str [99]]] (some 3)], [.sl 1 [[.str [112, 114, 101, 115, 115]], [.str [116, 105, 99, 107]], [.str [115, 48]]] (some 3)], [.sl 1 [[.str [69, 110, 100]], [.str [120]], [.str [73, 110, 112, 117, 116, 115]]] (some 3)]] : List (List AV)).getD q [] = [.sl 1 (strs (insN.getD q [])) (some 3)] ∧ (insN.getD q []).length = 3 := by
 rcases lt3 h with rfl|rfl|rfl <;> exact ⟨rfl, rfl⟩
theorem gO {q : Nat} (h : q < 3) : ([[.sl 1 [[.str [120]], [.str [121]], [.str [122]]] (some 3)], [.sl 1 [[.str [97]], [.str [111, 110]], [.str [111, 102, 102]]] (some 3)], [.sl 1 [[.str [111, 49]], [.str [111, 49, 48]], [.str [111]]] (some 3)]] : List (List AV)).getD q [] = [.sl 1 (strs (outsN.getD q [])) (some 3)] ∧ (outsN.getD q []).length = 3 := by
 rcases lt3 h with rfl|rfl|rfl <;> exact ⟨rfl, rfl⟩
theorem gS {q : Nat} (h : q < 3) : ([[.sl 1 [[.str [115, 48]], [.str [115, 49]], [.str [115, 50]], [.str [115, 51]], [.str [115, 52]], [.str [115, 53]]] (some 6)], [.sl 1 [[.str [97]], [.str [98]], [.str [99]], [.str [120]], [.str [121]], [.str [122]]] (some 6)], [.sl 1 [[.str [105, 100, 108, 101]], [.str [73, 100, 108, 101]], [.str [73, 68, 76, 69]], [.str [105, 95]], [.str [105, 95, 95]], [.str [105, 48]]] (some 6)]] : List (List AV)).getD q [] = [.sl 1 (strs (stsN.getD q [])) (some 6)] ∧ (stsN.getD q []).length = 6 := by
 rcases lt3 h with rfl|rfl|rfl <;> exact ⟨rfl, rfl⟩
theorem wcx9 (a b : Nat) (h : a < 256) (hb : 0 < b) : ((IntKind.u8.wrap ((a : Int).tdiv b)).tmod 3) = ((a / b % 3 : Nat) : Int) := by
 have h1 : a / b ≤ a := Nat.div_le_self a b;rw [show ((a : Int).tdiv b) = ((a / b : Nat) : Int) from rfl];generalize a / b = r at *;have : IntKind.u8.wrap (r : Int) = (r : Int) := by
  rw [IntKind.wrap_u8]; omega
 rw [this]; rfl
theorem xM0 (l : List Bs) (k : Nat) : (strs l).take k = strs (l.take k) := by simp [strs]
theorem of21 (x : ND) (z : Nat) (c : Option Nat) (hx : x.m.Ok) (hn : x.nm < 256) (hz : x.m.es = [] ∨ z = 1) : PC Tryz.prog G0 21 [.agg (ndC x z c)] (.agg x.G.A) := by
 have hM := mOf9 x.m z c hx hz;have hie : ∀ p, idsE p (u16s x.m.es) = true := fun p => xL0 _ _;have hir : ∀ p, idsE p (kb0 (x.m.rows x.m.n)) = true := fun p => we0 _ _;have hrl := xn0 (x.m.rows x.m.n);rw [MD.rows_len] at hrl;have bn : 1 ≤ x.m.n ∧ x.m.n ≤ 6 := x.m.bn;have bI : 1 ≤ x.m.I ∧ x.m.I ≤ 3 := x.m.bI;have bO : 1 ≤ x.m.O ∧ x.m.O ≤ 3 := x.m.bO;have h0 : ((x.nm : Int).tmod 3) = ((x.nm % 3 : Nat) : Int) := rfl;have h1 : ((IntKind.u8.wrap ((x.nm : Int).tdiv 3)).tmod 3) = ((x.nm / 3 % 3 : Nat) : Int) := wcx9 x.nm 3 hn (by decide);have h2 : ((IntKind.u8.wrap ((x.nm : Int).tdiv 9)).tmod 3) = ((x.nm / 9 % 3 : Nat) : Int) := wcx9 x.nm 9 hn (by decide);have h3 : ((IntKind.u8.wrap ((x.nm : Int).tdiv 27)).tmod 3) = ((x.nm / 27 % 3 : Nat) : Int) := wcx9 x.nm 27 hn (by decide);have q0 : x.nm % 3 < 3 := n'u _ (by decide);have q1 : x.nm / 3 % 3 < 3 := n'u _ (by decide);have q2 : x.nm / 9 % 3 < 3 := n'u _ (by decide);have q3 : x.nm / 27 % 3 < 3 := n'u _ (by decide);have g0 := gN q0;obtain ⟨g1, l1⟩ := gI q1;obtain ⟨g2, l2⟩ := gO q2;obtain ⟨g3, l3⟩ := gS q3;unfold ndC mdC mA ND.G GS.A at *;simp only [List.cons_append, List.nil_append];generalize hnm : x.nm = nm at *;generalize nm % 3 = w0 at *;generalize nm / 3 % 3 = w1 at *;generalize nm / 9 % 3 = w2 at *;generalize nm / 27 % 3 = w3 at *;generalize nmsN.getD w0 [] = NM at *;generalize insN.getD w1 [] = LI at *;generalize outsN.getD w2 [] = LO at *;generalize stsN.getD w3 [] = LS at *;have k1 := za0 LI;have k2 := za0 LO;have k3 := za0 LS;rw [l1] at k1;rw [l2] at k2;rw [l3] at k3;generalize u16s x.m.es = E at *;generalize kb0 (x.m.rows x.m.n) = RW at *;generalize x.m.I = I at *;generalize x.m.O = O at *;generalize x.m.n = n at *;refine wb0 1 75 [.cell 2 27] Tryz.func21 rfl rfl rfl (by simp) ?_;intro s ⟨a0, hz⟩;clear hz;repeat' (first|(((first|(with_reducible refine vb0 (p := [0, 1, 1, 1, 1, 1, 1]) ?_)|refine nav ?_|(refine g0_ ?_; first|refine dN (p := [0, 1, 1]) [] [] [(8, 9)] ?_|refine goD ?_))) <;> (try simp (disch := try exact discB) only [push_cast, simprocAttr, a0, h0, h1, h2, h3, g0, g1, g2, g3, k1, k2, k3]))|(with_reducible first|refine gG ?_ ?_|refine ⟨fun h => ?_, fun h => ?_⟩ <;> try omega|refine andG ?_)|refine cp hM ?_ (hi := by (simp [idsL, idsE, AV.ids, hie, hir]))|simp (disch := try exact discB) only [push_cast, simprocAttr, a0, h0, h1, h2, h3, g0, g1, g2, g3, k1, k2, k3])
 refine Halt.mk ?_;refine kq0 (by first|exact va0|fail) (zj0 (b := 3) (i := 0) (j := 4) (sz := 1) (ty := 9) rfl rfl rfl) ?_;refine kq0 trivial (zj0 (b := 3) (i := 0) (j := 5) (sz := 1) (ty := 9) rfl rfl rfl) ?_;refine kq0 trivial (zj0 (b := 3) (i := 0) (j := 6) (sz := 1) (ty := 9) rfl rfl rfl) ?_;repeat' (first|(((first|refine nav ?_|(refine g0_ ?_; first|refine dN (p := [0, 1, 1]) [] [] [(8, 9)] ?_|refine goD ?_))) <;> (try simp (disch := try exact discB) only [push_cast, simprocAttr, a0, h0, h1, h2, h3, g0, g1, g2, g3, k1, k2, k3]))|(with_reducible first|refine gG ?_ ?_|refine ⟨fun h => ?_, fun h => ?_⟩ <;> try omega|refine andG ?_)|refine cp hM ?_ (hi := by (simp [idsL, idsE, AV.ids, hie, hir]))|simp (disch := try exact discB) only [push_cast, simprocAttr, a0, h0, h1, h2, h3, g0, g1, g2, g3, k1, k2, k3])
 refine ⟨⟨hir _, ?_, ?_, ?_⟩, xM0 _ _, xM0 _ _, by rw [hrl, xM0]⟩ <;> (rw [xM0]; exact qbG9 _ _)
def u8s (w : List Nat) : List (List AV) := w.map fun n => [.int .u8 (n : Nat)]
theorem vbV9 (w : List Nat) : (u8s w).length = w.length := by simp [u8s]
theorem wcV9 (w : List Nat) (k : Nat) (h : k < w.length) : (u8s w).getD k [] = [.int .u8 (w.getD k 0 : Nat)] := by simp [u8s, h]
theorem vcV9 (p : Nat → Bool) (w : List Nat) : idsE p (u8s w) = true := xx0 _ _ fun x => by simp [idsL, AV.ids]
def ofW (w : List Nat) (A : Nat) : List Int := (w.take 12).map fun n => ((n % A : Nat) : Int)
def nxt (l : List Row) (q a : Int) : Edg := if q < 0 then (-1, -1) else (l.getD q.toNat ([], none)).1.getD a.toNat (0, 0)
def runM (l : List Row) : Int → List Int → List Int
 | _, [] => []
 | q, a :: w => (nxt l q a).2 :: runM l (nxt l q a).1 w
def stM (l : List Row) : Int → List Int → Int
 | q, [] => q
 | q, a :: w => stM l (nxt l q a).1 w
def nmK (l : List Int) (names : List Bs) (k : Nat) : Bs := Lib.join ((l.take k).map (nmI names)) [32]
end Go.Proofs
