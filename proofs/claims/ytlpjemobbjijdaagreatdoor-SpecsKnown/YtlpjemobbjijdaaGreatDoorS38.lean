import Derived.Test.YtlpjemobbjijdaaGreatDoorS36
import Derived.Test.YtlpjemobbjijdaaGreatDoorL1
import Derived.Test.YtlpjemobbjijdaaGreatDoorS27
namespace Go.Proofs
open Go Go.V
set_option linter.unusedVariables false
set_option linter.unusedSimpArgs false
set_option maxHeartbeats 0
set_option maxRecDepth 100000
def veq9 (ins l : List Bs) : List Int := l.map (idxI ins)
def eW (ins l : List Bs) : Int := if (l.any fun n => !decide (n ∈ ins)) = true then 7 else 0
def zep9 (r : List Int × Int) : AV := .tup [if r.1 = [] then .sl 0 [] (some 0) else .sl 1 (ints r.1) none, .int .i64 r.2]
theorem zdO9 : (∀ q, q < 3 → nmB (nmsN.getD q []) = true) ∧ (∀ q, q < 3 → (∀ s ∈ insN.getD q [], nmB s = true) ∧ (insN.getD q []).Nodup) ∧ (∀ q, q < 3 → (∀ s ∈ outsN.getD q [], nmB s = true) ∧ (outsN.getD q []).Nodup) ∧ (∀ q, q < 3 → (∀ s ∈ stsN.getD q [], nmB s = true) ∧ (stsN.getD q []).Nodup) := by decide +kernel
theorem qby9 {l : List Bs} {k : Nat} (h : l.Nodup) : (l.take k).Nodup := h.sublist (List.take_sublist k l)
theorem ND.v (x : ND) : x.G.V := by
 have q0 : x.nm % 3 < 3 := n'u _ (by decide);have q1 : x.nm / 3 % 3 < 3 := n'u _ (by decide);have q2 : x.nm / 9 % 3 < 3 := n'u _ (by decide);have q3 : x.nm / 27 % 3 < 3 := n'u _ (by decide);obtain ⟨a0, a1, a2, a3⟩ := zdO9;have bn := x.m.bn;have bI := x.m.bI;have bO := x.m.bO;have l1 := (gI q1).2;have l2 := (gO q2).2;have l3 := (gS q3).2;refine ⟨x.m.ok, ?_, ?_, ?_, fun l hl s hs => ?_, fun l hl => ?_⟩
 ·show (((insN.getD (x.nm / 3 % 3) []).take x.m.I).length : Int) = _;rw [l'x, l1]; show ((min x.m.I 3 : Nat) : Int) = (x.m.I : Int); omega
 ·show (((outsN.getD (x.nm / 9 % 3) []).take x.m.O).length : Int) = _;rw [l'x, l2]; show ((min x.m.O 3 : Nat) : Int) = (x.m.O : Int); omega
 ·show ((stsN.getD (x.nm / 27 % 3) []).take x.m.n).length = (x.m.rows x.m.n).length;rw [l'x, l3, MD.rows_len]; omega
 ·simp only [GS.lists, l'w, l'J, or_false] at hl;rcases hl with rfl|rfl|rfl|rfl
  ·rw [n'h] at hs; rw [hs]; exact a0 _ q0
  ·exact (a1 _ q1).1 s (l'P hs)
  ·exact (a2 _ q2).1 s (l'P hs)
  ·exact (a3 _ q3).1 s (l'P hs)
 ·simp only [GS.lists, l'w, l'J, or_false] at hl;rcases hl with rfl|rfl|rfl|rfl
  ·simp
  ·exact qby9 (a1 _ q1).2
  ·exact qby9 (a2 _ q2).2
  ·exact qby9 (a3 _ q3).2
theorem v_ok {x : GS} (h : x.V) (hr : x.zr = 1) (hi : x.zi = 1) (ho : x.zo = 1) (hs : x.zs = 1) : x.Ok := by
 obtain ⟨l1, l2, l3, l4, l5, l6⟩ := h.cnts;have hm := vd0 h.m;refine ⟨.inr hr, .inr hi, .inr ho, .inr hs, by omega, fun j hj => ?_, by omega, by omega, by omega, fun l hl s hs => ?_⟩
 ·have := hm.2.2.2.1 j hj; omega
 ·have := (vbH9 (h.nm l hl s hs)).2; omega
theorem ND.ok (x : ND) : x.G.Ok := v_ok x.v rfl rfl rfl rfl
def zW (l : List Int) : Nat := if l = [] then 0 else 1
def cW (l : List Int) : Option Nat := if l = [] then some 0 else none
end Go.Proofs
