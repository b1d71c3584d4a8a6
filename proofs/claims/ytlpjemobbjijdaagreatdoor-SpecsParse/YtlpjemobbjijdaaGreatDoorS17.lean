import Derived.Test.YtlpjemobbjijdaaGreatDoorS14
import Derived.Test.YtlpjemobbjijdaaGreatDoorV69
import Derived.Test.YtlpjemobbjijdaaGreatDoorS5
import Derived.Test.YtlpjemobbjijdaaGreatDoorV33
import Derived.Test.YtlpjemobbjijdaaGreatDoorV39
import Derived.Test.YtlpjemobbjijdaaGreatDoorAP9
import Derived.Test.YtlpjemobbjijdaaGreatDoorM3
namespace Go.Proofs
open Go Go.V
set_option linter.unusedVariables false
set_option linter.unusedSimpArgs false
set_option maxHeartbeats 0
set_option maxRecDepth 100000
theorem xad9 (s0 : Bs) (hs : s0.length ≤ 1000000) (hlen : (ofS s0).1.length ≤ 1000000) : PC Tryz.prog G0 22 [.str s0] (xag9 s0) := by
 have h63 := of9 s0 hs
 unfold ofA at h63
 unfold xag9
 generalize hR : ofS s0 = R at *
 obtain ⟨ts, l, cl, er⟩ := R
 simp only at h63 hlen ⊢
 have htl := vc0 ts
 refine xdj9 2 48 [.cell 2 27, .cell 3 3, .cell 4 3, .cell 5 29] Tryz.func22 rfl rfl rfl (by simp) ?_
 intro m0 s ⟨a0, hz⟩
 clear hz
 refine zaL9 rfl ?_
 refine vaj9 ?_
 repeat' (first|(first|refine nav ?_|(refine g0_ ?_; first|refine wb0 (dr := allQ) (p := [0, 0, 1, 0, 1, 1]) [(20, 3), (21, 4), (22, 5)] [(2, some 2), (3, some 3), (4, some 4)] [] rfl rfl mixed (by kernel_rfl) ?_|refine goD ?_))|with_reducible refine gG ?_ ?_|((with_reducible refine And.intro (fun h => ?_) (fun h => ?_)) <;> try (exfalso; omega))|with_reducible refine andG ?_|(first|(refine ⟨_, _, pc_lift h63 (by simp [idsL, idsE, AV.ids]) _, ?_⟩)|(refine ⟨_, pc_lift h63 (by simp [idsL, idsE, AV.ids]) _, ?_⟩)|(refine ⟨_, fun _ => pc_lift h63 (by simp [idsL, idsE, AV.ids]) _, ?_⟩))|simp (disch := try exact discB) only [push_cast, simprocAttr, a0])
 refine ⟨by first|exact xb0|fail, ?_⟩
 show GoD _ _ _ _ _ _ _ _ _ _ _
 refine zaL9 rfl ?_
 refine vaj9 ?_
 repeat' (first|(first|refine nav ?_|(refine g0_ ?_; first|refine wb0 (dr := allQ) (p := [0, 0, 1, 0, 1, 1]) [(20, 3), (21, 4), (22, 5)] [(2, some 2), (3, some 3), (4, some 4)] [] rfl rfl mixed (by kernel_rfl) ?_|refine goD ?_))|with_reducible refine gG ?_ ?_|((with_reducible refine And.intro (fun h => ?_) (fun h => ?_)) <;> try (exfalso; omega))|with_reducible refine andG ?_|(first|(refine ⟨_, _, pc_lift h63 (by simp [idsL, idsE, AV.ids]) _, ?_⟩)|(refine ⟨_, pc_lift h63 (by simp [idsL, idsE, AV.ids]) _, ?_⟩)|(refine ⟨_, fun _ => pc_lift h63 (by simp [idsL, idsE, AV.ids]) _, ?_⟩))|simp (disch := try exact discB) only [push_cast, simprocAttr, a0])
 refine ⟨by first|exact xb0|fail, ?_⟩
 show GoD _ _ _ _ _ _ _ _ _ _ _
 refine zaL9 rfl ?_
 by_cases her : er = 0
 rotate_left
 ·rw [if_neg her]
  refine vaj9 ?_
  repeat' (first|(first|(with_reducible refine kb0 (p := [0, 0, 1, 0, 1, 1]) ?_)|refine nav ?_|(refine g0_ ?_; first|refine wb0 (dr := allQ) (p := [0, 0, 1, 0, 1, 1]) [(20, 3), (21, 4), (22, 5)] [(2, some 2), (3, some 3), (4, some 4)] [] rfl rfl mixed (by kernel_rfl) ?_|refine goD ?_))|with_reducible refine gG ?_ ?_|((with_reducible refine And.intro (fun h => ?_) (fun h => ?_)) <;> try (exfalso; omega))|with_reducible refine andG ?_|(first|(refine ⟨_, _, pc_lift h63 (by simp [idsL, idsE, AV.ids]) _, ?_⟩)|(refine ⟨_, pc_lift h63 (by simp [idsL, idsE, AV.ids]) _, ?_⟩)|(refine ⟨_, fun _ => pc_lift h63 (by simp [idsL, idsE, AV.ids]) _, ?_⟩))|simp (disch := try exact discB) only [push_cast, simprocAttr, a0, her, zSpecA])
  refine Halt.mk ?_
  refine xct9 (p := [0, 0, 1, 0, 1, 1]) rfl rfl mixed (by kernel_rfl) (by first|exact xb0|fail) ?_
  repeat' (first|refine vct9 rfl ?_|refine kbV9 rfl rfl ?_|refine kct9 rfl rfl ?_|(with_reducible refine And.intro ?_ ?_)|simp (disch := try exact discB) only [push_cast, simprocAttr, a0, her, zSpecA])
  repeat' (first|(first|refine nav ?_|(refine g0_ ?_; first|refine wb0 (dr := allQ) (p := [0, 0, 1, 0, 1, 1]) [(20, 3), (21, 4), (22, 5)] [(2, some 2), (3, some 3), (4, some 4)] [] rfl rfl mixed (by kernel_rfl) ?_|refine goD ?_))|with_reducible refine gG ?_ ?_|((with_reducible refine And.intro (fun h => ?_) (fun h => ?_)) <;> try (exfalso; omega))|with_reducible refine andG ?_|(first|(refine ⟨_, _, pc_lift h63 (by simp [idsL, idsE, AV.ids]) _, ?_⟩)|(refine ⟨_, pc_lift h63 (by simp [idsL, idsE, AV.ids]) _, ?_⟩)|(refine ⟨_, fun _ => pc_lift h63 (by simp [idsL, idsE, AV.ids]) _, ?_⟩))|simp (disch := try exact discB) only [push_cast, simprocAttr, a0, her, zSpecA])
  refine ⟨trivial, .inr rfl, ?_⟩
  simp (disch := try exact discB) only [push_cast, simprocAttr, a0, her, zSpecA]
 ·subst her
  rw [if_pos rfl]
  refine vaj9 ?_
  repeat' (first|(first|refine nav ?_|(refine g0_ ?_; first|refine wb0 (dr := allQ) (p := [0, 0, 1, 0, 1, 1]) [(20, 3), (21, 4), (22, 5)] [(2, some 2), (3, some 3), (4, some 4)] [] rfl rfl mixed (by kernel_rfl) ?_|refine goD ?_))|with_reducible refine gG ?_ ?_|((with_reducible refine And.intro (fun h => ?_) (fun h => ?_)) <;> try (exfalso; omega))|with_reducible refine andG ?_|(first|(refine ⟨_, _, pc_lift h63 (by simp [idsL, idsE, AV.ids]) _, ?_⟩)|(refine ⟨_, pc_lift h63 (by simp [idsL, idsE, AV.ids]) _, ?_⟩)|(refine ⟨_, fun _ => pc_lift h63 (by simp [idsL, idsE, AV.ids]) _, ?_⟩))|simp (disch := try exact discB) only [push_cast, simprocAttr, a0])
  refine ⟨by first|exact xb0|fail, ?_⟩
  show GoD _ _ _ _ _ _ _ _ _ _ _
  refine zaL9 rfl ?_
  refine qbV9 1 rfl rfl rfl rfl rfl ?_
  repeat' (first|(first|refine nav ?_|(refine g0_ ?_; first|refine wb0 (dr := allQ) (p := [0, 0, 1, 0, 1, 1]) [(20, 3), (21, 4), (22, 5)] [(2, some 2), (3, some 3), (4, some 4)] [] rfl rfl mixed (by kernel_rfl) ?_|refine goD ?_))|with_reducible refine gG ?_ ?_|((with_reducible refine And.intro (fun h => ?_) (fun h => ?_)) <;> try (exfalso; omega))|with_reducible refine andG ?_|(first|(refine ⟨_, _, pc_lift h63 (by simp [idsL, idsE, AV.ids]) _, ?_⟩)|(refine ⟨_, pc_lift h63 (by simp [idsL, idsE, AV.ids]) _, ?_⟩)|(refine ⟨_, fun _ => pc_lift h63 (by simp [idsL, idsE, AV.ids]) _, ?_⟩))|simp (disch := try exact discB) only [push_cast, simprocAttr, a0])
  refine ⟨trivial, ?_⟩
  unfold DefQ
  refine ⟨rfl, rfl, 64, argP, rfl, ?_⟩
  show GoD _ _ _ _ _ _ _ _ _ _ _
  refine kbU9 ?_
  exact kcb9 hlen _ rfl rfl rfl rfl rfl
end Go.Proofs
namespace Go.Proofs
open Go Go.V
set_option linter.unusedVariables false
set_option linter.unusedSimpArgs false
set_option maxHeartbeats 0
set_option maxRecDepth 100000
theorem zcz9 (z : Nat) (l : List Bs) (c : Option Nat) : PC Tryz.prog G0 44 [.sl z (strs l) c] (.fn 88 [.iptr [.sl z (strs l) c] 0]) := by
 have hids : ∀ p, idsE p (strs l) = true := fun p => za0 _ _
 generalize strs l = L at *
 refine vb0 3 4 [.tmp 2] Tryz.func44 rfl rfl rfl (by simp) ?_
 intro s ⟨a0, hz⟩
 clear hz
 repeat' (first|refine nav ?_|(refine g0_ ?_; refine goD ?_)|with_reducible refine gG ?_ ?_|((with_reducible refine And.intro (fun h => ?_) (fun h => ?_)) <;> try (exfalso; omega))|with_reducible refine andG ?_|simp (disch := try exact discB) only [push_cast, simprocAttr, a0])
 all_goals exact hids _
theorem xcz9 (z : Nat) (l : List Bs) (c : Option Nat) (hz : l = [] ∨ z = 1) (hl : l.length ≤ 1000000) : Iter Tryz.prog G0 88 [.iptr [.sl z (strs l) c] 0] (fun q => [.str (l.getD q [])]) l.length := by
 intro K b q stop hs1 hs2 hy hzz
 have hL := xa0 l
 refine vl0 16 [] Tryz.func88 rfl rfl rfl (by simp) ?_
 intro s ⟨a0, a1, hz⟩
 simp only [Nat.zero_add, Nat.reduceAdd] at a1
 clear hz
 repeat' (first|refine nav ?_|(refine g0_ ?_; refine goD ?_)|with_reducible refine gG ?_ ?_|((with_reducible refine And.intro (fun h => ?_) (fun h => ?_)) <;> try (exfalso; omega))|with_reducible refine andG ?_|simp (disch := try exact discB) only [push_cast, simprocAttr, a0, a1, hL])
 refine go_loop rfl (fun mz s' H' => ∃ k : Nat, k ≤ l.length ∧ mz = l.length - k ∧ H' = K k ∧ s' 0 = .yld b ∧ s' 1 = .iptr [.sl z (strs l) c] 0 ∧ s' 5 = .sl z (strs l) c ∧ s' 6 = .int .i64 l.length ∧ s' 7 = .int .i64 k ∧ k ≤ q) (m := l.length) (by first|exact xb0|fail) (Weak.refl _ _) ⟨0, by omega, by omega, rfl, ?_⟩ ?_
 ·simp (disch := try exact discB) only [push_cast, simprocAttr, a0, a1, hL]
  omega
 ·rintro mz s' H' ⟨k, hk, rfl, rfl, b0, b1, b5, b6, b7, ik⟩
  rcases Nat.lt_or_ge k l.length with hlt|hge
  ·obtain rfl := hz.resolve_left (by intro h; rw [h] at hlt; simp at hlt)
   have e1 := qg0 l k hlt
   rcases Nat.lt_or_ge k q with h3|h3
   ·have hyk : zF0 Tryz.prog G0 b [.str (l.getD k [])] (K k) (.bool true) (K (k + 1)) := hy k h3
    generalize l.getD k [] = x at *
    repeat' (first|refine nav ?_|(refine g0_ ?_; refine goD ?_)|with_reducible refine gG ?_ ?_|((with_reducible refine And.intro (fun h => ?_) (fun h => ?_)) <;> try (exfalso; omega))|with_reducible refine andG ?_|(first|(refine ⟨_, _, hyk, ?_⟩)|(refine ⟨_, hyk, ?_⟩)|(refine ⟨_, fun _ => hyk, ?_⟩))|simp (disch := try exact discB) only [push_cast, simprocAttr, b0, b1, b5, b6, b7, e1, hL])
    refine wa0 (l.length - (k + 1)) (by omega) (by first|exact xb0|fail) ⟨k + 1, by omega, rfl, rfl, ?_⟩
    simp (disch := try exact discB) only [push_cast, simprocAttr, b0, b1, b5, b6, b7, e1, hL]
    omega
   ·obtain rfl : k = q := by omega
    cases stop with
    | false => have := hs2 rfl; omega
    | true =>
     have hyk : zF0 Tryz.prog G0 b [.str (l.getD k [])] (K k) (.bool false) (K (k + 1)) := hzz rfl
     generalize l.getD k [] = x at *
     repeat' (first|refine nav ?_|(refine g0_ ?_; refine goD ?_)|with_reducible refine gG ?_ ?_|((with_reducible refine And.intro (fun h => ?_) (fun h => ?_)) <;> try (exfalso; omega))|with_reducible refine andG ?_|(first|(refine ⟨_, _, hyk, ?_⟩)|(refine ⟨_, hyk, ?_⟩)|(refine ⟨_, fun _ => hyk, ?_⟩))|simp (disch := try exact discB) only [push_cast, simprocAttr, b0, b1, b5, b6, b7, e1, hL])
  ·obtain rfl : k = l.length := by omega
   obtain rfl : l.length = q := by
    cases stop with
    | false => exact (hs2 rfl).symm
    | true => have := hs1 rfl; omega
   cases stop with
   | true => have := hs1 rfl; omega
   | false =>
    repeat' (first|refine nav ?_|(refine g0_ ?_; refine goD ?_)|with_reducible refine gG ?_ ?_|((with_reducible refine And.intro (fun h => ?_) (fun h => ?_)) <;> try (exfalso; omega))|with_reducible refine andG ?_|(first|(refine ⟨_, _, hyk, ?_⟩)|(refine ⟨_, hyk, ?_⟩)|(refine ⟨_, fun _ => hyk, ?_⟩))|simp (disch := try exact discB) only [push_cast, simprocAttr, b0, b1, b5, b6, b7])
end Go.Proofs
namespace Go.Proofs
open Go Go.V
set_option linter.unusedVariables false
set_option linter.unusedSimpArgs false
set_option maxHeartbeats 0
set_option maxRecDepth 100000
theorem wad9 (l : List Bs) (q : Nat) (h : q < l.length) : l.take (q + 1) = l.take q ++ [l.getD q []] := by
 rw [List.take_succ_eq_append_getElem h, List.getD_eq_getElem?_getD, List.getElem?_eq_getElem h]; rfl
theorem vad9 (H : List Blk) (l : List Bs) : ((strs l).map fun e => e.map (xf0 H 0)) = strs l := by simp [strs, xf0]
theorem kbk9 (H : List Blk) (l : List Bs) : ((strs l).all fun e => e.all (okC H 0)) = true := by simp [strs, okC, AV.closed, AV.ids]
theorem zaZ9 (z : Nat) (l : List Bs) (c : Option Nat) (hz : l = [] ∨ z = 1) (hl : l.length ≤ 1000000) : ka0 Tryz.prog G0 115 [.sl 0 [] (some 0), .fn 88 [.iptr [.sl z (strs l) c] 0]] [] (.own 1 l.length l.length none) [.row 1 25 [[.own 1 l.length l.length none]], .row 1 9 (strs l)] := by
 have hit := xcz9 z l c hz hl
 have hids : ∀ p, idsE p (strs l) = true := fun p => za0 _ _
 have hlen := xa0 l
 generalize hcap : ([.iptr [.sl z (strs l) c] 0] : List AV) = cap at *
 have hidc : idsL kR0 cap = true := by rw [← hcap]; simp [idsL, AV.ids, hids]
 have hidc2 : ∀ p, idsL p cap = true := fun p => by rw [← hcap]; simp [idsL, AV.ids, hids]
 clear hcap
 refine vl0 13 [.tmp 4] Tryz.func115 rfl rfl rfl (by simp) ?_
 intro s ⟨a0, a1, hz⟩
 simp only [Nat.zero_add, Nat.reduceAdd] at a1
 clear hz
 repeat' (first|(first|(with_reducible refine kb0 (p := [0, 1, 0, 1]) ?_)|refine nav ?_|(refine g0_ ?_; first|refine goD ?_))|with_reducible refine gG ?_ ?_|((with_reducible refine And.intro (fun h => ?_) (fun h => ?_)) <;> try (exfalso; omega))|with_reducible refine andG ?_|simp (disch := try exact discB) only [push_cast, simprocAttr, a0, a1])
 refine Halt.mk ?_
 refine vaa9 (by first|exact xb0|fail) (qC0 (b := 0) (i := 0) (j := 0) (sz := 1) (ty := 9) rfl rfl rfl) ?_
 refine xaT9 (m := l.length) (k := 2) .normal (fun q => [.row 1 25 [[.own 1 (min q l.length) (min q l.length) none]], .row 1 9 (strs (l.take q))]) rfl (by first|exact xb0|fail) ?_ ?_ (by kernel_rfl) hit rfl rfl (fun _ => rfl) (fun q => by simp [Blk.below, idsE, idsL, AV.ids, za0]) (fun j => ⟨by simp [idsL, AV.ids], rfl⟩) (fun h => by cases h) (fun _ => rfl) rfl (fun q hq s1 hs1 => ?_) (fun h => by cases h) ?_
 ·simp (disch := try exact discB) only [push_cast, simprocAttr, a0, a1]
 ·simp (disch := try exact discB) only [push_cast, simprocAttr, a0, a1]
 ·have r2 := (zbz9 hs1 2 rfl).trans (show _ = AV.ptr 0 0 0 1 from rfl)
  have r7 : s1 7 = .str (l.getD q []) := (hs1 7).trans rfl
  clear hs1
  have hsn := wad9 l q hq
  have hm0 : min q l.length = q := by omega
  have hm1 : min (q + 1) l.length = q + 1 := by omega
  have hlq : (strs (l.take q)).length = q := by rw [xa0, List.length_take]; omega
  have hsn2 : strs (l.take (q + 1)) = strs (l.take q) ++ [[.str (l.getD q [])]] := by rw [wau9, hsn]
  rw [hsn2, hm0, hm1]
  generalize l.getD q [] = x at *
  generalize strs (l.take q) = L at *
  repeat' (first|refine nav ?_|(refine g0_ ?_; refine goD ?_)|with_reducible refine gG ?_ ?_|((with_reducible refine And.intro (fun h => ?_) (fun h => ?_)) <;> try (exfalso; omega))|with_reducible refine andG ?_|simp (disch := try exact discB) only [push_cast, simprocAttr, r2, r7, hlq])
  refine xbN9 ⟨by first|exact xb0|fail, vdf9 ?_⟩
  repeat' (first|refine nav ?_|(refine g0_ ?_; refine goD ?_)|with_reducible refine gG ?_ ?_|((with_reducible refine And.intro (fun h => ?_) (fun h => ?_)) <;> try (exfalso; omega))|with_reducible refine andG ?_|simp (disch := try exact discB) only [push_cast, simprocAttr, r2, r7, hlq])
  omega
 ·rw [if_neg (by simp [we0]), List.take_length, Nat.min_self]
  repeat' (first|refine nav ?_|(refine g0_ ?_; refine goD ?_)|with_reducible refine gG ?_ ?_|((with_reducible refine And.intro (fun h => ?_) (fun h => ?_)) <;> try (exfalso; omega))|with_reducible refine andG ?_|simp (disch := try exact discB) only [push_cast, simprocAttr, Nat.add_zero])
theorem qcc9 (z : Nat) (l : List Bs) (c : Option Nat) (hz : l = [] ∨ z = 1) (hl : l.length ≤ 1000000) (H : List Blk) : ka0 Tryz.prog G0 86 [.fn 88 [.iptr [.sl z (strs l) c] 0]] H (.own H.length l.length l.length none) (H ++ [.row 1 9 (strs l)]) := by
 have h0 := zaZ9 z l c hz hl
 have hids : ∀ p, idsE p (strs l) = true := fun p => za0 _ _
 have hlen := xa0 l
 have hid : idsL kR0 [AV.fn 88 [.iptr [.sl z (strs l) c] 0]] = true := by simp [idsL, AV.ids, hids]
 have h1 := fun H => kbS9 (r' := .own H.length l.length l.length none) (es' := strs l) 0 1 H h0 (by simp [idsL, AV.ids, hids, idsE]) rfl (kbk9 _ _) (vad9 _ _) (by simp [kaB9, qbh9]) (by simp [renR, renA])
 have h2 : ka0 Tryz.prog G0 86 [.fn 88 [.iptr [.sl z (strs l) c] 0]] [] (.own 0 l.length l.length none) [.row 1 9 (strs l)] := by
  generalize strs l = L at *
  generalize hcap : ([.iptr [.sl z L c] 0] : List AV) = cap at *
  have h1 := h1 []
  refine vl0 5 [.tmp 2] Tryz.func86 rfl rfl rfl (by simp) ?_
  intro s ⟨a0, hz⟩
  clear hz
  repeat' (first|refine nav ?_|(refine g0_ ?_; refine goD ?_)|with_reducible refine gG ?_ ?_|((with_reducible refine And.intro (fun h => ?_) (fun h => ?_)) <;> try (exfalso; omega))|with_reducible refine andG ?_|(first|(refine ⟨_, _, h1, ?_⟩)|(refine ⟨_, h1, ?_⟩)|(refine ⟨_, fun _ => h1, ?_⟩))|simp (disch := try exact discB) only [push_cast, simprocAttr, a0])
 have h3 := kbS9 (r' := .own H.length l.length l.length none) (es' := strs l) 0 0 H h2 hid rfl (kbk9 _ _) (vad9 _ _) (by simp [kaB9, qbh9]) (by simp [renR, renA])
 exact h3
end Go.Proofs
namespace Go.Proofs
open Go Go.V
set_option linter.unusedVariables false
set_option linter.unusedSimpArgs false
set_option maxHeartbeats 0
set_option maxRecDepth 100000
theorem kdm9 (b : Nat) (l : List Bs) (c : Option Nat) (H : List Blk) (hb : H[b]? = some (.row 1 9 (strs l))) (h0 : 0 < l.length) (hl : l.length ≤ 1000000) : ka0 Tryz.prog G0 87 [.own b l.length l.length c] H (.tup []) (H.set b (.row 1 9 (strs (srtB l)))) := by
 refine kaC9 hb (by decide) h0 (qJ0 l) (fun _ _ => .tuple #[]) (fun g cap w h1 h2 h3 => ?_) (fun E g k cap _ _ _ _ _ _ => ?_)
 ·exact (Tryz.slices_Sort_string g 0 cap l w h1 h2 (by omega)).mono fun e w' ⟨e1, n, os, e2⟩ => ⟨e1, n, os, e2⟩
 ·simp [Rel, RelL]
def cmpK (l : List Bs) : Nat := (Lib.compact (srtB l)).length
def cmpL (l : List Bs) : List Bs := Lib.compact (srtB l) ++ List.replicate ((srtB l).length - (Lib.compact (srtB l)).length) []
theorem zcc9 (b : Nat) (l : List Bs) (c : Option Nat) (H : List Blk) (hb : H[b]? = some (.row 1 9 (strs (srtB l)))) (h0 : 0 < l.length) (hl : l.length ≤ 1000000) : ka0 Tryz.prog G0 45 [.own b l.length l.length c] H (.own b (cmpK l) l.length c) (H.set b (.row 1 9 (strs (cmpL l)))) := by
 have hlen := qJ0 l
 have hle := waD9 l
 rw [← hlen]
 refine kaC9 hb (by decide) (by omega) ?_ (fun g cap => .slice (some ⟨g, 0, none⟩) (cmpK l) cap) (fun g cap w h1 h2 h3 => ?_) (fun E g k cap e1 e2 e3 e4 e5 e6 => ?_)
 ·simp only [cmpL, List.length_append, List.length_replicate]; omega
 ·refine (Tryz.slices_Compact_string g 0 cap (srtB l) w h1 (by omega) h3).mono fun e w' ⟨e1, n, e2⟩ => ⟨e1, n, #[], ?_⟩
  rw [e2]; simp [Go.Sort.grow, cmpL]; rfl
 ·simp only [Rel]
  refine ⟨1, _, e1, Nat.le_refl _, fun _ => ⟨by simp only [cmpK]; omega, .inr ⟨g, k, cap, e2, rfl, by simp only [cmpK]; omega, e4, e5, e6⟩⟩⟩
theorem wcz9 (z : Nat) (l : List Bs) (c : Option Nat) (hz : l = [] ∨ z = 1) (h0 : 0 < l.length) (hl : l.length ≤ 1000000) (H : List Blk) : ka0 Tryz.prog G0 43 [.fn 88 [.iptr [.sl z (strs l) c] 0]] H (.own H.length l.length l.length none) (H ++ [.row 1 9 (strs (srtB l))]) := by
 have h1 := qcc9 z l c hz hl []
 have hids : ∀ p, idsE p (strs l) = true := fun p => za0 _ _
 have hlen := xa0 l
 have hlen2 := qJ0 l
 have h2 := kdm9 0 l none [.row 1 9 (strs l)] rfl h0 hl
 have hid : idsL kR0 [AV.fn 88 [.iptr [.sl z (strs l) c] 0]] = true := by simp [idsL, AV.ids, hids]
 have hS : ka0 Tryz.prog G0 43 [.fn 88 [.iptr [.sl z (strs l) c] 0]] [] (.own 0 l.length l.length none) [.row 1 9 (strs (srtB l))] := by
  generalize strs l = L at *
  generalize hcap : ([.iptr [.sl z L c] 0] : List AV) = cap at *
  refine vl0 9 [.tmp 2] Tryz.func43 rfl rfl rfl (by simp) ?_
  intro s ⟨a0, hz⟩
  clear hz
  repeat' (first|refine nav ?_|(refine g0_ ?_; refine goD ?_)|with_reducible refine gG ?_ ?_|((with_reducible refine And.intro (fun h => ?_) (fun h => ?_)) <;> try (exfalso; omega))|with_reducible refine andG ?_|(first|(refine ⟨_, _, h1, ?_⟩)|(refine ⟨_, h1, ?_⟩)|(refine ⟨_, fun _ => h1, ?_⟩)|(refine ⟨_, _, h2, ?_⟩)|(refine ⟨_, h2, ?_⟩)|(refine ⟨_, fun _ => h2, ?_⟩))|simp (disch := try exact discB) only [push_cast, simprocAttr, a0])
 have h3 := kbS9 (r' := .own H.length l.length l.length none) (es' := strs (srtB l)) 0 0 H hS hid rfl (kbk9 _ _) (vad9 _ _) (by simp [kaB9, qbh9]) (by simp [renR, renA])
 exact h3
end Go.Proofs
