import Derived.Test.YtlpjemobbjijdaaGreatDoorL2
import Derived.Test.YtlpjemobbjijdaaGreatDoorL7
import Derived.Test.YtlpjemobbjijdaaGreatDoorV63
import Derived.Test.YtlpjemobbjijdaaGreatDoorV69
namespace Go.Proofs
open Go Go.V
set_option linter.unusedVariables false
set_option linter.unusedSimpArgs false
set_option maxHeartbeats 0
set_option maxRecDepth 100000
def idxI (l : List Bs) (s : Bs) : Int := idxL (fun x => decide (x = s)) l
theorem zbv9 (z : Nat) (l : List Bs) (c : Option Nat) (s0 : Bs) (hz : l = [] ∨ z = 1) (hl : l.length ≤ 1000000) : PC Tryz.prog G0 85 [.sl z (strs l) c, .str s0] (.int .i64 (idxI l s0)) := by
 unfold idxI;refine wb0 0 19 [.tmp 4] Tryz.func85 rfl rfl rfl (by simp) ?_;intro s ⟨a0, a1, hz⟩;simp only [l'g, Nat.reduceAdd] at a1;clear hz;repeat' (first|refine nv ?_|(with_reducible first|refine gG ?_ ?_|refine ⟨fun h => ?_, fun h => ?_⟩ <;> try omega|refine andG ?_)|simp (disch := try exact discB) only [push_cast, simprocAttr, a0, a1])
 refine go_loop rfl (fun mz s' H' => ∃ k : Nat, k ≤ l.length ∧ mz = l.length - k ∧ H' = [] ∧ s' 0 = .sl z (strs l) c ∧ s' 1 = .str s0 ∧ s' 7 = .int .i64 l.length ∧ s' 8 = .int .i64 k ∧ ∀ j, j < k → (fun x => decide (x = s0)) (l.getD j []) = false) (m := l.length) (by first|exact va0|fail) (Weak.refl _ _) ⟨0, by omega, by omega, rfl, ?_⟩ ?_
 ·simp (disch := try exact discB) only [push_cast, simprocAttr, a0, a1];all_goals exact fun j hj => by omega
 ·rintro mz s' H' ⟨k, hk, rfl, rfl, b0, b1, b7, b8, ik⟩;rcases l'h k l.length with hlt|hge
  ·obtain rfl := hz.resolve_left (by intro h; rw [h] at hlt; simp at hlt);have e1 := vc0 l k hlt;have hn := xC0 (fun x => decide (x = s0)) [] l k ik hlt;have hs := fun h => wE0 ik (show (fun x => decide (x = s0)) (l.getD k []) = false from h);generalize l.getD k [] = x at *;by_cases hx : s0 = x
   ·subst hx;have hx2 : decide (s0 = s0) = true := by simp
    repeat' (first|refine nv ?_|(with_reducible first|refine gG ?_ ?_|refine ⟨fun h => ?_, fun h => ?_⟩ <;> try omega|refine andG ?_)|simp (disch := try exact discB) only [push_cast, simprocAttr, b0, b1, b7, b8, e1])
    rw [hn hx2]
   ·have hx2 : decide (x = s0) = false := decide_eq_false fun h => hx h.symm;repeat' (first|refine nv ?_|(with_reducible first|refine gG ?_ ?_|refine ⟨fun h => ?_, fun h => ?_⟩ <;> try omega|refine andG ?_)|simp (disch := try exact discB) only [push_cast, simprocAttr, b0, b1, b7, b8, e1, hx])
    refine wa0 (l.length - (k + 1)) (by omega) (by first|exact va0|fail) ⟨k + 1, by omega, rfl, rfl, ?_⟩;simp (disch := try exact discB) only [push_cast, simprocAttr, b0, b1, b7, b8, e1, hx];exact fun j hj => by have := hs hx2 j hj; simpa using this
  ·obtain rfl : k = l.length := by omega
   repeat' (first|refine nv ?_|(with_reducible first|refine gG ?_ ?_|refine ⟨fun h => ?_, fun h => ?_⟩ <;> try omega|refine andG ?_)|simp (disch := try exact discB) only [push_cast, simprocAttr, b0, b1, b7, b8])
   rw [xaB9 _ [] l ik]
theorem kO0 (z : Nat) (l : List Bs) (c : Option Nat) (s0 : Bs) (hz : l = [] ∨ z = 1) (hl : l.length ≤ 1000000) : PC Tryz.prog G0 41 [.sl z (strs l) c, .str s0] (.bool (l.contains s0)) := by
 have h := zbv9 z l c s0 hz hl;have e : decide (0 ≤ idxI l s0) = l.contains s0 := by
  rw [idxI, qac9, l'X, l'H, n'y];constructor
  ·rintro ⟨x, hx, h⟩;have : x = s0 := by simpa using h
   rw [← this]; exact hx
  ·intro h;exact ⟨s0, h, by simp⟩
 rw [← e];generalize idxI l s0 = i at *;have hid : ∀ p, idsE p (strs l) = true := fun p => xa0 _ _;generalize strs l = SL at *;refine wb0 0 9 [.tmp 4] Tryz.func41 rfl rfl rfl (by simp) ?_;intro s ⟨a0, a1, hz⟩;simp only [l'g, Nat.reduceAdd] at a1;clear hz;repeat' (first|refine nv ?_|(with_reducible first|refine gG ?_ ?_|refine ⟨fun h => ?_, fun h => ?_⟩ <;> try omega|refine andG ?_)|refine cp h ?_ (hi := by (simp [idsL, idsE, AV.ids, hid]))|simp (disch := try exact discB) only [push_cast, simprocAttr, a0, a1])
theorem vaj9 (z : Nat) (l : List Bs) (c : Option Nat) (s0 : Bs) (hz : l = [] ∨ z = 1) (hl : l.length ≤ 1000000) : PC Tryz.prog G0 36 [.sl z (strs l) c, .str s0] (.int .i64 (idxI l s0)) := by
 unfold idxI;refine wb0 0 19 [.tmp 4] Tryz.func36 rfl rfl rfl (by simp) ?_;intro s ⟨a0, a1, hz⟩;simp only [l'g, Nat.reduceAdd] at a1;clear hz;repeat' (first|refine nv ?_|(with_reducible first|refine gG ?_ ?_|refine ⟨fun h => ?_, fun h => ?_⟩ <;> try omega|refine andG ?_)|simp (disch := try exact discB) only [push_cast, simprocAttr, a0, a1])
 refine go_loop rfl (fun mz s' H' => ∃ k : Nat, k ≤ l.length ∧ mz = l.length - k ∧ H' = [] ∧ s' 0 = .sl z (strs l) c ∧ s' 1 = .str s0 ∧ s' 5 = .int .i64 k ∧ ∀ j, j < k → (fun x => decide (x = s0)) (l.getD j []) = false) (m := l.length) (by first|exact va0|fail) (Weak.refl _ _) ⟨0, by omega, by omega, rfl, ?_⟩ ?_
 ·simp (disch := try exact discB) only [push_cast, simprocAttr, a0, a1];all_goals exact fun j hj => by omega
 ·rintro mz s' H' ⟨k, hk, rfl, rfl, b0, b1, b5, ik⟩;rcases l'h k l.length with hlt|hge
  ·obtain rfl := hz.resolve_left (by intro h; rw [h] at hlt; simp at hlt);have e1 := vc0 l k hlt;have hn := xC0 (fun x => decide (x = s0)) [] l k ik hlt;have hs := fun h => wE0 ik (show (fun x => decide (x = s0)) (l.getD k []) = false from h);generalize l.getD k [] = x at *;by_cases hx : x = s0
   ·subst hx;have hx2 : decide (x = x) = true := by simp
    repeat' (first|refine nv ?_|(with_reducible first|refine gG ?_ ?_|refine ⟨fun h => ?_, fun h => ?_⟩ <;> try omega|refine andG ?_)|simp (disch := try exact discB) only [push_cast, simprocAttr, b0, b1, b5, e1])
    rw [hn hx2]
   ·have hx2 : decide (x = s0) = false := decide_eq_false hx;repeat' (first|refine nv ?_|(with_reducible first|refine gG ?_ ?_|refine ⟨fun h => ?_, fun h => ?_⟩ <;> try omega|refine andG ?_)|simp (disch := try exact discB) only [push_cast, simprocAttr, b0, b1, b5, e1, hx])
    refine wa0 (l.length - (k + 1)) (by omega) (by first|exact va0|fail) ⟨k + 1, by omega, rfl, rfl, ?_⟩;simp (disch := try exact discB) only [push_cast, simprocAttr, b0, b1, b5, e1, hx];exact fun j hj => by have := hs hx2 j hj; simpa using this
  ·obtain rfl : k = l.length := by omega
   repeat' (first|refine nv ?_|(with_reducible first|refine gG ?_ ?_|refine ⟨fun h => ?_, fun h => ?_⟩ <;> try omega|refine andG ?_)|simp (disch := try exact discB) only [push_cast, simprocAttr, b0, b1, b5])
   rw [xaB9 _ [] l ik]
theorem xbv9 (p : Bs → Bool) (g : FuncId) (cap : List AV) (z : Nat) (l : List Bs) (c : Option Nat) (H : List Blk) (hz : l = [] ∨ z = 1) (hent : qa0 Tryz.prog g = true) (hp : ∀ x ∈ l, qb0 Tryz.prog G0 g (.str x :: cap) H (.bool (p x)) H) (hx : l.length ≤ 1000000) :
  qb0 Tryz.prog G0 83 [.sl z (strs l) c, .fn g cap] H (.int .i64 (idxL p l)) H := by
 refine zp0 19 [.tmp 4] Tryz.func83 rfl rfl rfl (by simp) ?_;intro s ⟨a0, a1, hz⟩;simp only [l'g, Nat.reduceAdd] at a1;clear hz;repeat' (first|refine nv ?_|(with_reducible first|refine gG ?_ ?_|refine ⟨fun h => ?_, fun h => ?_⟩ <;> try omega|refine andG ?_)|simp (disch := try exact discB) only [push_cast, simprocAttr, a0, a1])
 refine go_loop rfl (fun mz s' H' => ∃ k : Nat, k ≤ l.length ∧ mz = l.length - k ∧ H' = H ∧ s' 0 = .sl z (strs l) c ∧ s' 1 = .fn g cap ∧ s' 7 = .int .i64 l.length ∧ s' 8 = .int .i64 k ∧ ∀ j, j < k → p (l.getD j []) = false) (m := l.length) (by first|exact va0|fail) (Weak.refl _ _) ⟨0, by omega, by omega, rfl, ?_⟩ ?_
 ·simp (disch := try exact discB) only [push_cast, simprocAttr, a0, a1];all_goals exact fun j hj => by omega
 ·rintro mz s' H' ⟨k, hk, rfl, rfl, b0, b1, b7, b8, ik⟩;rcases l'h k l.length with hlt|hge
  ·obtain rfl := hz.resolve_left (by intro h; rw [h] at hlt; simp at hlt);have e1 := vc0 l k hlt;have hP := hp (l.getD k []) (ze0 [] hlt);have hn := xC0 p [] l k ik hlt;have hs := fun h => wE0 ik (show p (l.getD k []) = false from h);generalize l.getD k [] = x at *;repeat' (first|refine nv ?_|(with_reducible first|refine gG ?_ ?_|refine ⟨fun h => ?_, fun h => ?_⟩ <;> try omega|refine andG ?_)|refine cl hP ?_|simp (disch := try exact discB) only [push_cast, simprocAttr, b0, b1, b7, b8, e1, hent])
   ·rw [hn h]
   ·refine wa0 (l.length - (k + 1)) (by omega) (by first|exact va0|fail) ⟨k + 1, by omega, rfl, rfl, ?_⟩;simp (disch := try exact discB) only [push_cast, simprocAttr, b0, b1, b7, b8, e1, hent];exact hs h
  ·obtain rfl : k = l.length := by omega
   repeat' (first|refine nv ?_|(with_reducible first|refine gG ?_ ?_|refine ⟨fun h => ?_, fun h => ?_⟩ <;> try omega|refine andG ?_)|refine cl hP ?_|simp (disch := try exact discB) only [push_cast, simprocAttr, b0, b1, b7, b8])
   rw [xaB9 p [] l ik]
theorem zS0 (p : Bs → Bool) (g : FuncId) (cap : List AV) (z : Nat) (l : List Bs) (c : Option Nat) (H : List Blk) (hz : l = [] ∨ z = 1) (hent : qa0 Tryz.prog g = true) (hp : ∀ x ∈ l, qb0 Tryz.prog G0 g (.str x :: cap) H (.bool (p x)) H) (hx : l.length ≤ 1000000) :
  qb0 Tryz.prog G0 38 [.sl z (strs l) c, .fn g cap] H (.bool (l.any p)) H := by
 refine zp0 9 [.tmp 4] Tryz.func38 rfl rfl rfl (by simp) ?_;intro s ⟨a0, a1, hz⟩;simp only [l'g, Nat.reduceAdd] at a1;clear hz;repeat' (first|refine nv ?_|(with_reducible first|refine gG ?_ ?_|refine ⟨fun h => ?_, fun h => ?_⟩ <;> try omega|refine andG ?_)|refine cl (xbv9 p g cap z l c H hz hent hp hx) ?_|simp (disch := try exact discB) only [push_cast, simprocAttr, a0, a1])
 exact congrArg AV.bool (qac9 p l)
theorem wbv9 (b n h : Nat) (t : TypeId) (es : List (List AV)) (c : Option Nat) (H : List Blk) (hb : H[b]? = some (.row 1 t es)) (hh : h = es.length) (hn : n ≤ h) : qb0 Tryz.prog G0 130 [.own b n h c] H (.own b n h (some n)) H := by
 subst hh;refine zp0 9 [.tmp 2] Tryz.func130 rfl rfl rfl (by simp) ?_;intro s ⟨a0, hz⟩;clear hz;repeat' (first|refine nv ?_|(with_reducible first|refine gG ?_ ?_|refine ⟨fun h => ?_, fun h => ?_⟩ <;> try omega|refine andG ?_)|simp (disch := try exact discB) only [push_cast, simprocAttr, a0, hb])
theorem kaj9 : PC Tryz.prog G0 42 [] (.sl 1 (strs resB) (some 5)) := by
 refine wb0 0 2 [.tmp 0] Tryz.func42 rfl rfl rfl (by simp) ?_;intro s hz;clear hz;repeat' (first|refine nv ?_|(with_reducible first|refine gG ?_ ?_|refine ⟨fun h => ?_, fun h => ?_⟩ <;> try omega|refine andG ?_)|simp (disch := try exact discB) only [push_cast, simprocAttr, Nat.add_zero])
 all_goals rfl
theorem kbG9 (s0 : Bs) (hs : s0.length ≤ 1000000) : PC Tryz.prog G0 40 [.str s0] (.bool (decide (chkT 1 s0 = 0))) := by
 have h : PC Tryz.prog G0 84 [.agg [.int .u8 1, .str s0, .int .i64 0, .int .i64 0]] (.int .i64 (chkT 1 s0)) := wds9 ⟨1, s0, 0, 0⟩ hs;refine wb0 0 7 [.tmp 2] Tryz.func40 rfl rfl rfl (by simp) ?_;intro s ⟨a0, hz⟩;clear hz;repeat' (first|refine nv ?_|(with_reducible first|refine gG ?_ ?_|refine ⟨fun h => ?_, fun h => ?_⟩ <;> try omega|refine andG ?_)|refine cp h ?_ (hi := by (simp [idsL, idsE, AV.ids, hid]))|simp (disch := try exact discB) only [push_cast, simprocAttr, a0])
def nmB (s : Bs) : Bool := decide (chkT 1 s = 0) && !resB.contains s
theorem vej9 (s0 : Bs) (hs : s0.length ≤ 1000000) : PC Tryz.prog G0 39 [.str s0] (.bool (!nmB s0)) := by
 have h1 := kbG9 s0 hs;have h2 := kaj9;have h3 := kO0 1 resB (some 5) s0 (.inr rfl) (by decide);unfold nmB;have hid : ∀ p, idsE p (strs resB) = true := fun p => xa0 _ _;generalize strs resB = SL at *;generalize resB.contains s0 = b at *;cases h : decide (chkT 1 s0 = 0) with
 | false =>
  rw [h] at h1;refine wb0 0 11 [.tmp 2] Tryz.func39 rfl rfl rfl (by simp) ?_;intro s ⟨a0, hz⟩;clear hz;repeat' (first|refine nv ?_|(with_reducible first|refine gG ?_ ?_|refine ⟨fun h => ?_, fun h => ?_⟩ <;> try omega|refine andG ?_)|refine cp h1 ?_ (hi := by (simp [idsL, idsE, AV.ids, hid]))|(refine ⟨.top, ?_⟩; refine kY0 ?_)|simp (disch := try exact discB) only [push_cast, simprocAttr, a0])
 | true =>
  rw [h] at h1;refine wb0 0 11 [.tmp 2] Tryz.func39 rfl rfl rfl (by simp) ?_;intro s ⟨a0, hz⟩;clear hz;repeat' (first|refine nv ?_|(with_reducible first|refine gG ?_ ?_|refine ⟨fun h => ?_, fun h => ?_⟩ <;> try omega|refine andG ?_)|refine cp h1 ?_ (hi := by (simp [idsL, idsE, AV.ids, hid]))|refine cp h2 ?_ (hi := by (simp [idsL, idsE, AV.ids, hid]))|refine cp h3 ?_ (hi := by (simp [idsL, idsE, AV.ids, hid]))|simp (disch := try exact discB) only [push_cast, simprocAttr, a0])
theorem wac9 (s0 : Bs) : PC Tryz.prog G0 35 [.str s0] (.int .i64 (bI (resB.contains s0))) := by
 by_cases h1 : s0 = kMac
 ·rw [show resB.contains s0 = true by rw [h1]; decide];subst h1;unfold kMac;refine wb0 0 21 [.tmp 2] Tryz.func35 rfl rfl rfl (by simp) ?_;intro s ⟨a0, hz⟩;clear hz;repeat' (first|refine nv ?_|(with_reducible first|refine gG ?_ ?_|refine ⟨fun h => ?_, fun h => ?_⟩ <;> try omega|refine andG ?_)|simp (disch := try exact discB) only [push_cast, simprocAttr, a0])
  all_goals rfl
 ·by_cases h2 : s0 = kIns
  ·rw [show resB.contains s0 = true by rw [h2]; decide];unfold kMac at h1;subst h2;unfold kIns;refine wb0 0 21 [.tmp 2] Tryz.func35 rfl rfl rfl (by simp) ?_;intro s ⟨a0, hz⟩;clear hz;repeat' (first|refine nv ?_|(with_reducible first|refine gG ?_ ?_|refine ⟨fun h => ?_, fun h => ?_⟩ <;> try omega|refine andG ?_)|simp (disch := try exact discB) only [push_cast, simprocAttr, a0])
   all_goals rfl
  ·by_cases h3 : s0 = kk0
   ·rw [show resB.contains s0 = true by rw [h3]; decide];subst h3;unfold kk0;refine wb0 0 21 [.tmp 2] Tryz.func35 rfl rfl rfl (by simp) ?_;intro s ⟨a0, hz⟩;clear hz;repeat' (first|refine nv ?_|(with_reducible first|refine gG ?_ ?_|refine ⟨fun h => ?_, fun h => ?_⟩ <;> try omega|refine andG ?_)|simp (disch := try exact discB) only [push_cast, simprocAttr, a0])
    all_goals rfl
   ·by_cases h4 : s0 = kSts
    ·rw [show resB.contains s0 = true by rw [h4]; decide];subst h4;unfold kSts;refine wb0 0 21 [.tmp 2] Tryz.func35 rfl rfl rfl (by simp) ?_;intro s ⟨a0, hz⟩;clear hz;repeat' (first|refine nv ?_|(with_reducible first|refine gG ?_ ?_|refine ⟨fun h => ?_, fun h => ?_⟩ <;> try omega|refine andG ?_)|simp (disch := try exact discB) only [push_cast, simprocAttr, a0])
     all_goals rfl
    ·by_cases h5 : s0 = kEnd
     ·rw [show resB.contains s0 = true by rw [h5]; decide];subst h5;unfold kEnd;refine wb0 0 21 [.tmp 2] Tryz.func35 rfl rfl rfl (by simp) ?_;intro s ⟨a0, hz⟩;clear hz;repeat' (first|refine nv ?_|(with_reducible first|refine gG ?_ ?_|refine ⟨fun h => ?_, fun h => ?_⟩ <;> try omega|refine andG ?_)|simp (disch := try exact discB) only [push_cast, simprocAttr, a0])
      all_goals rfl
     ·rw [show resB.contains s0 = false by
       rw [l'L, Ne, n'y];simp [resB, h1, h2, h3, h4, h5]]
      unfold kMac at h1;unfold kIns at h2;unfold kk0 at h3;unfold kSts at h4;unfold kEnd at h5;refine wb0 0 21 [.tmp 2] Tryz.func35 rfl rfl rfl (by simp) ?_;intro s ⟨a0, hz⟩;clear hz;repeat' (first|refine nv ?_|(with_reducible first|refine gG ?_ ?_|refine ⟨fun h => ?_, fun h => ?_⟩ <;> try omega|refine andG ?_)|simp (disch := try exact discB) only [push_cast, simprocAttr, a0, h1, h2, h3, h4, h5])
      all_goals rfl
theorem qcs9 (s0 : Bs) (hs : s0.length ≤ 60000) : PC Tryz.prog G0 34 [.str s0] (.int .i64 (1 - chkT 1 s0)) := by
 have h : PC Tryz.prog G0 79 [.agg [.int .u8 1, .str s0, .int .i64 0, .int .i64 0]] (.int .i64 (1 - chkT 1 s0)) := vds9 ⟨1, s0, 0, 0⟩ hs;refine wb0 0 6 [.tmp 2] Tryz.func34 rfl rfl rfl (by simp) ?_;intro s ⟨a0, hz⟩;clear hz;repeat' (first|refine nv ?_|(with_reducible first|refine gG ?_ ?_|refine ⟨fun h => ?_, fun h => ?_⟩ <;> try omega|refine andG ?_)|refine cp h ?_ (hi := by (simp [idsL, idsE, AV.ids, hid]))|simp (disch := try exact discB) only [push_cast, simprocAttr, a0])
def rdC (ts : List Tk) (c : Option Nat) (i : Int) (x : List AV) : List AV := .sl 4 (tks ts) c :: .int .i64 i :: x
def fltV (i : Nat) (e : Int) : List PanicEntry := [{ v := .iface 111 (.agg #[.int .i64 (i : Int), .int .i64 e]), recovered := false }]
theorem kej9 (u : Value) (W : World) : (Instr.makeInterface 111 u).run Tryz.prog W = .ok (.iface 111 u) W := by
 simp [Instr.makeInterface, run_underlying Tryz.underlying111]
theorem wL0 (H : List Blk) (b : AV) (i : Nat) (e : Int) : APan Tryz.prog G0 108 [b, .int .i64 i, .int .i64 e] H (fltV i e) H := by
 refine vj0 10 Tryz.func108 rfl rfl (by simp) ?_;intro s ⟨a0, a1, a2, hz⟩;simp only [l'g, Nat.reduceAdd] at a1 a2;clear hz;refine zdq9 (p := []) 3 rfl rfl rfl rfl rfl kej9 (by decide) ?_;repeat' (first|refine nv ?_|(with_reducible first|refine gG ?_ ?_|refine ⟨fun h => ?_, fun h => ?_⟩ <;> try omega|refine andG ?_)|simp (disch := try exact discB) only [push_cast, simprocAttr, a0, a1, a2])
 exact ⟨trivial, (show _ ∧ _ from ⟨rfl, _, rfl, rfl, .inl rfl⟩)⟩
theorem ke0 {n : Nat} {o : Oper} {f : Operand} {args : Array Operand} {ts : Array TypeId} {g : FuncId} {cap : List AV} {Q : zg0} {B : Prop} {s : Nat → AV} {H H' : List Blk} {ch : List PanicEntry} (hB : B) (hop : o.op = .call ⟨.value f, args, ts⟩) (hf : (evS G0 n s f).strip = .fn g cap) (hk : (evS G0 n s f).ok = true) (hent : qa0 Tryz.prog g = true) (ha : (args.toList.all fun x => (evS G0 n s x).ok) = true) (hc : APan Tryz.prog G0 g ((args.toList.map fun x => (evS G0 n s x).strip) ++ cap) H ch H') (hQ : Q (.panic ch) s H') : Out (PanQ Tryz.prog G0 n o Q) .normal B s H := by
 refine ⟨hB, ?_⟩
 change qaG9 Tryz.prog G0 o (evS G0 n s) H (fun ch H' => Q (.panic ch) s H')
 unfold qaG9;rw [hop];simp only [hf];exact ⟨hk, hent, ha, ch, H', hc, hQ⟩
section
variable {H : List Blk} {b : Nat} {ts : List Tk} {c : Option Nat} {x0 x1 x2 x3 x4 x5 x6 : AV}
theorem qak9 (i : Nat) (hb : H[b]? = some (.row 9 118 [rdC ts c i [x0, x1, x2, x3, x4, x5, x6]])) (hi : i < ts.length) (hl : ts.length ≤ 1000000) (hbel : (H.set b (.row 9 118 [rdC ts c ((i : Int) + 1) [x0, x1, x2, x3, x4, x5, x6]])).all (Blk.below H.length) = true) :
  qb0 Tryz.prog G0 129 [.ptr b 0 0 1] H (.agg (tkA (ts.getD i tk0))) (H.set b (.row 9 118 [rdC ts c ((i : Int) + 1) [x0, x1, x2, x3, x4, x5, x6]])) := by
 have hlt := (l'c.1 hb).1;have hb1 : ∀ B, (H ++ [B])[b]? = some (.row 9 118 [rdC ts c i [x0, x1, x2, x3, x4, x5, x6]]) := fun B => by rw [l'f hlt]; exact hb
 have hb2 : ∀ X B, (H ++ [B]).set b X = H.set b X ++ [B] := fun X B => List.set_append_left _ _ hlt;have hb3 : ∀ X B, (H.set b X ++ [B])[b]? = some X := fun X B => by rw [l'f (by rw [l'D]; exact hlt)]; exact l'o hlt
 have hb4 : ∀ X B, (H.set b X ++ [B])[H.length]? = some B := fun X B => by rw [l'q (by rw [l'D]; exact l'd _), l'D, l'N]; rfl
 have hb5 : ∀ X B Y, (H.set b X ++ [B]).set H.length Y = H.set b X ++ [Y] := fun X B Y => by rw [l'O _ _ (by rw [l'D]; exact l'd _), l'D, l'N]; rfl
 have e1 := qn0 ts i hi;generalize ts.getD i tk0 = t at *;obtain ⟨tk, tt, tl, tc⟩ := t;simp only [tkA] at e1 ⊢;refine wbD9 (K := [.row 4 115 [[.int .u8 tk, .str tt, .int .i64 tl, .int .i64 tc]]]) ?_ (l'D ..) hbel rfl;have htl := wd0 ts;unfold rdC at *;generalize tks ts = TS at *;have hi2 : (i : Int) + 1 - 1 = i := by omega
 refine zp0 39 [.cell 2 115] Tryz.func129 rfl rfl rfl (by simp) ?_;intro s ⟨a0, hz⟩;clear hz;repeat' (first|refine nv ?_|(with_reducible first|refine gG ?_ ?_|refine ⟨fun h => ?_, fun h => ?_⟩ <;> try omega|refine andG ?_)|simp (disch := try exact discB) only [push_cast, simprocAttr, a0, hb1, hb2, hb3, hb4, hb5, htl, e1, hi2])
 exact hi
theorem qaV9 (hb : H[b]? = some (.row 9 118 [rdC ts c ts.length [x0, x1, x2, x3, x4, x5, x6]])) (hl : ts.length ≤ 1000000) (hbel : H.all (Blk.below H.length) = true) :
  APan Tryz.prog G0 129 [.ptr b 0 0 1] H (fltV (ts.length - 1) 4) H := by
 have hlt := (l'c.1 hb).1;have hb1 : ∀ B, (H ++ [B])[b]? = some (.row 9 118 [rdC ts c ts.length [x0, x1, x2, x3, x4, x5, x6]]) := fun B => by rw [l'f hlt]; exact hb
 have hm : (if 0 > (ts.length : Int) - 1 then 0 else (ts.length : Int) - 1) = ((ts.length - 1 : Nat) : Int) := by split <;> omega
 have hf := fun H => wL0 H (.ptr b 0 0 1) (ts.length - 1) 4;rw [← hm] at hf;have htl := wd0 ts;unfold rdC at *;generalize tks ts = TS at *;refine vj0 39 Tryz.func129 rfl rfl (by simp) ?_;intro s ⟨a0, hz⟩;clear hz;repeat' (first|(first|(with_reducible refine vb0 (p := [0, 1, 0, 1]) ?_)|refine nav ?_|(refine g0_ ?_; first|refine goD ?_))|(with_reducible first|refine gG ?_ ?_|refine ⟨fun h => ?_, fun h => ?_⟩ <;> try omega|refine andG ?_)|simp (disch := try exact discB) only [push_cast, simprocAttr, a0, hb1, htl])
 refine Halt.mk ?_;refine vh0 (p := [0, 1, 0, 1]) 7 (by rfl) (by rfl) (by rfl) (by rfl) ?_;repeat' (first|refine nv ?_|(with_reducible first|refine gG ?_ ?_|refine ⟨fun h => ?_, fun h => ?_⟩ <;> try omega|refine andG ?_)|simp (disch := try exact discB) only [push_cast, simprocAttr, a0, hb1, htl])
 exact ke0 trivial rfl rfl rfl kaz9 rfl (hf _) ⟨rfl, .inr ⟨by rw [n'i rfl]; exact hbel, n'i rfl⟩⟩
end
end Go.Proofs
