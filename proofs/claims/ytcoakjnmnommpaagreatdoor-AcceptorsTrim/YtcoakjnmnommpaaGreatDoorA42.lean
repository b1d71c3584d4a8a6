import Derived.Test.YtcoakjnmnommpaaGreatDoorA39
import Derived.Test.YtcoakjnmnommpaaGreatDoorA20
namespace Go.Proofs
open Go Go.V Go.RowKit
set_option linter.unusedVariables false
set_option linter.unusedSimpArgs false
set_option maxHeartbeats 0
def vao9 (l : List LC) (ac : List Bool) (s : Nat) : List (List Int × Bool) := (List.range s).map fun s => ((l.getD s ([], none)).1, ac.getD s false)
def txK (A : Int) (l : List LC) (ac : List Bool) : Nat → List UInt8
 | 0 => lnE [] vE0 [A, (l.length : Int)]
 | s + 1 => lnE (txK A l ac s) (vR0 (ac.getD s false)) (l.getD s ([], none)).1
theorem wcF9 (l : List LC) (ac : List Bool) (s : Nat) : (vao9 l ac s).length = s := by simp [vao9]
theorem qdB9 (A : Int) (l : List LC) (ac : List Bool) : txK A l ac l.length = xW0 A (vao9 l ac l.length) := by
 have key : ∀ s, txK A l ac s = (xJ0 vE0 [A, (l.length : Int)] :: zw0 (vao9 l ac s)).flatMap fun x => x ++ [10] := fun s => by
  induction s with
  | zero => simp [txK, lnE, zw0, vao9]
  | succ s ih =>
   have e : zw0 (vao9 l ac (s + 1)) = zw0 (vao9 l ac s) ++ [xJ0 (vR0 (ac.getD s false)) (l.getD s ([], none)).1] := by simp [zw0, vao9, List.range_succ]
   rw [txK, ih, lnE, e, ← List.cons_append, List.flatMap_append, List.flatMap_singleton]
 rw [key, xW0, wcF9]
theorem vcF9 {A : Nat} {l : List LC} {ac : List Bool} (hok : OkDv A (vm0 l) ac.length) : ∀ s, s ≤ l.length → (txK A l ac s).length ≤ 100 + s * 400
 | 0, _ => by
  have h2 := hok.a2
  have h3 := hok.n
  rw [kg0] at h3
  have := xcF9 [] vE0 [(A : Int), (l.length : Int)] (fun x hx => by simp at hx; omega)
  rw [txK]
  simp only [List.length_nil, List.length_cons, vE0] at this ⊢
  omega
 | s + 1, h => by
  have ih := vcF9 hok s (by omega)
  have h2 := hok.a2
  have h3 := hok.n
  rw [kg0] at h3
  have hr := hok.row (l := l) (s := s) (by omega)
  have := xcF9 (txK A l ac s) (vR0 (ac.getD s false)) (l.getD s ([], none)).1 (fun x hx => by
   obtain ⟨a, ha, rfl⟩ := List.getElem_of_mem hx
   have := hok.at (l := l) (s := s) (a := a) (by omega) (by omega)
   rw [List.getD_eq_getElem?_getD (l := (l.getD s ([], none)).1), List.getElem?_eq_getElem ha, Option.getD_some] at this
   omega)
  have hsg : (vR0 (ac.getD s false)).length = 1 := by cases ac.getD s false <;> rfl
  rw [txK, Nat.succ_mul]
  omega
def kda9 (sym : Int) (l : List LC) (ac : List Bool) : AV := if vl0 sym (vm0 l) ac.length ≠ 0 then .tup [.str [], .int .i64 (vl0 sym (vm0 l) ac.length)] else .tup [.str (xW0 sym (vao9 l ac l.length)), .int .i64 0]
theorem qbO9 (p : Nat → Bool) (s : List UInt8) : idsE p (byt s) = true := zr0 _ _ fun x => by simp [idsL, AV.ids]
def mpT : List (AV × AV) := updA (updA [] (.bool true) (.str [43])) (.bool false) (.str [45])
theorem mpT1 : qX0 Tryz.prog 4 [] (.bool true) = true := by kernel_rfl
theorem mpT2 : qX0 Tryz.prog 4 (updA [] (.bool true) (.str [43])) (.bool false) = true := by kernel_rfl
theorem mpT3 (b : Bool) : qX0 Tryz.prog 4 (updA (updA [] (.bool true) (.str [43])) (.bool false) (.str [45])) (.bool b) = true := by cases b <;> kernel_rfl
theorem mpT4 (z : AV) (b : Bool) : zL0 z (updA (updA [] (.bool true) (.str [43])) (.bool false) (.str [45])) (.bool b) = .str (vR0 b) := by cases b <;> rfl
set_option maxRecDepth 100000 in
theorem wdS9 (sym : Int) (zr : Nat) (l : List LC) (c : Option Nat) (za : Nat) (ac : List Bool) (ca : Option Nat) (hsz : SizeD zr l za ac) : PC Tryz.prog G0 27 [dA sym zr l c za ac ca] (kda9 sym l ac) := by
 have hck := hsz.check (sym := sym) (c := c) (ca := ca)
 have hidR : ∀ p, idsE p (rowL l) = true := fun p => vf0 _ _
 have hidA : ∀ p, idsE p (kd0 ac) = true := fun p => zi0 _ _
 unfold kda9
 by_cases h0 : vl0 sym (vm0 l) ac.length = 0
 ·rw [if_neg (by simp [h0])]
  rw [h0] at hck
  obtain ⟨A, rfl, hok⟩ := zct9 h0
  have hlen := vcF9 hok
  have hrow := fun s h => hok.row (l := l) (s := s) h
  have hat := fun s a h1 h2 => hok.at (l := l) (s := s) (a := a) h1 h2
  have hall := qdB9 A l ac
  have hn := hok.n
  have hn1 := hok.n1
  have hm := hok.m
  have hA := hok.a2
  rw [kg0] at hn hn1 hm
  obtain rfl := hsz.zl.resolve_left (by intro h; rw [h] at hn1; simp at hn1)
  obtain rfl := hsz.zac.resolve_left (by intro h; rw [h] at hm; simp at hm; omega)
  have hRl := zc0 l
  have hAl := xg0 ac
  have e1 := zh0 l
  have e2 := ky0 ac
  have hB : ∃ B0, B0 = Blk.row 3 47 [[.int .i64 (A : Int), .sl 1 (rowL l) c, .sl 1 (kd0 ac) ca]] := ⟨_, rfl⟩
  obtain ⟨B0, hB0⟩ := hB
  have hW0 := wdj9 vE0 [] 1 [(A : Int), (l.length : Int)] (some 2) B0 (bldB (.lit (.pointer none)) 0) [] (.inr rfl) (fun x hx => by simp at hx; omega) (by simp) (by simp [vE0]) (.inr ⟨rfl, rfl⟩)
  unfold bldB vE0 at hW0
  rw [hB0] at hW0
  unfold dA at *
  generalize rowL l = RN at *
  generalize kd0 ac = BA at *
  refine vd0 0 44 [.tmp 2, .tmp 3] Tryz.func27 rfl rfl rfl (by simp) ?_
  intro s ⟨a0, hz⟩
  clear hz
  repeat' (first|(first|(with_reducible refine xax9 (p := [0, 1, 1, 1]) ?_)|refine nav ?_|(refine g0_ ?_; first|refine goD ?_))|(with_reducible refine gG ?_ ?_)|((with_reducible refine And.intro (fun h => ?_) (fun h => ?_)) <;> try (exfalso; omega))|(with_reducible refine andG ?_)|(first|(refine ⟨_, _, qa0 (hck) (by (simp [idsL, idsE, AV.ids, hidR, hidA])) _, ?_⟩)|(refine ⟨_, qa0 (hck) (by (simp [idsL, idsE, AV.ids, hidR, hidA])) _, ?_⟩)|(refine ⟨_, fun _ => qa0 (hck) (by (simp [idsL, idsE, AV.ids, hidR, hidA])) _, ?_⟩))|simp (disch := (first|exact za0|fail)) only [push_cast, simprocAttr, a0, hRl, en60])
  refine Halt.mk (xE0 (by first|exact xb0|fail) (vi0 (b := 1) (i := 0) (j := 1) (sz := 1) (ty := 5) rfl rfl rfl) ?_)
  repeat' (first|refine nav ?_|(refine g0_ ?_; refine goD ?_)|(with_reducible refine gG ?_ ?_)|((with_reducible refine And.intro (fun h => ?_) (fun h => ?_)) <;> try (exfalso; omega))|(with_reducible refine andG ?_)|(first|(refine ⟨_, _, hW0, ?_⟩)|(refine ⟨_, hW0, ?_⟩)|(refine ⟨_, fun _ => hW0, ?_⟩))|simp (disch := (first|exact za0|fail)) only [push_cast, simprocAttr, a0, hRl, en60])
  refine go_loop rfl (fun mz s' H' => ∃ s : Nat, s ≤ l.length ∧ mz = l.length - s ∧ H' = [Blk.row 3 47 [[.int .i64 A, .sl 1 RN c, .sl 1 BA ca]], .row 2 95 [[.ptr 1 0 0 1, .own 2 (txK A l ac s).length (txK A l ac s).length none]], .row 1 5 (byt (txK A l ac s))] ∧ s' 1 = .ptr 0 0 0 1 ∧ s' 5 = .ptr 1 0 0 1 ∧ s' 6 = .fn 60 [.ptr 1 0 0 1] ∧ s' 24 = .sl 1 RN c ∧ s' 25 = .int .i64 l.length ∧ s' 26 = .int .i64 s) (m := l.length) (by first|exact xb0|fail) (Weak.refl _ _) ⟨0, by omega, by omega, rfl, ?_⟩ ?_
  ·simp (disch := (first|exact za0|fail)) only [push_cast, simprocAttr, a0, hRl, en60]
  ·rintro mz s' H' ⟨s, hs, rfl, rfl, b1, b5, b6, b24, b25, b26⟩
   have hlen := hlen s hs
   rcases Nat.lt_or_ge s l.length with hlt|hge
   ·have e1s := e1 s hlt
    have e2s := e2 s (by omega)
    have hrow := hrow s hlt
    have hW := fun K => wdj9 (vR0 (ac.getD s false)) (txK A l ac s) 1 (l.getD s ([], none)).1 (l.getD s ([], none)).2 B0 (bldB (.ptr 1 0 0 1) (txK A l ac s).length) K (.inr rfl) (fun x hx => by
     obtain ⟨a, ha, rfl⟩ := List.getElem_of_mem hx
     have := hat s a hlt (by omega)
     rw [List.getD_eq_getElem?_getD (l := (l.getD s ([], none)).1), List.getElem?_eq_getElem ha, Option.getD_some] at this
     omega) (by omega) (by have hsg : (vR0 (ac.getD s false)).length = 1 := (by cases ac.getD s false <;> rfl); omega) (.inl rfl)
    have hnx : txK A l ac (s + 1) = lnE (txK A l ac s) (vR0 (ac.getD s false)) (l.getD s ([], none)).1 := rfl
    rw [← hnx] at hW
    unfold bldB at hW
    rw [hB0] at hW
    unfold lC at e1s
    generalize txK A l ac s = t at *
    generalize ht2 : txK A l ac (s + 1) = t' at *
    generalize ints (l.getD s ([], none)).1 = IR at *
    generalize (l.getD s ([], none)).2 = cr at *
    cases hb : ac.getD s false with
    | true =>
     rw [hb] at hW e2s
     repeat' (first|refine nav ?_|(refine g0_ ?_; refine goD ?_)|(with_reducible refine gG ?_ ?_)|((with_reducible refine And.intro (fun h => ?_) (fun h => ?_)) <;> try (exfalso; omega))|(with_reducible refine andG ?_)|(first|(refine ⟨_, _, hW _, ?_⟩)|(refine ⟨_, hW _, ?_⟩)|(refine ⟨_, fun _ => hW _, ?_⟩))|simp (disch := (first|exact za0|fail)) only [push_cast, simprocAttr, b1, b5, b6, b24, b25, b26, e1s, e2s, hRl, hAl, en60, mpT1, mpT2, mpT3, mpT4])
     refine kp0 (l.length - (s + 1)) 3 (by omega) (by first|exact xb0|fail) (by omega) (by simp) (by simp [Blk.below, idsE, idsL, AV.ids, hidR, hidA, qbO9]) ⟨s + 1, by omega, rfl, by rw [ht2]; rfl, ?_⟩
     simp (disch := (first|exact za0|fail)) only [push_cast, simprocAttr, b1, b5, b6, b24, b25, b26, xi0, AV.ids, idsL]
     rw [if_pos (hidR _)]
    | false =>
     rw [hb] at hW e2s
     repeat' (first|refine nav ?_|(refine g0_ ?_; refine goD ?_)|(with_reducible refine gG ?_ ?_)|((with_reducible refine And.intro (fun h => ?_) (fun h => ?_)) <;> try (exfalso; omega))|(with_reducible refine andG ?_)|(first|(refine ⟨_, _, hW _, ?_⟩)|(refine ⟨_, hW _, ?_⟩)|(refine ⟨_, fun _ => hW _, ?_⟩))|simp (disch := (first|exact za0|fail)) only [push_cast, simprocAttr, b1, b5, b6, b24, b25, b26, e1s, e2s, hRl, hAl, en60, mpT1, mpT2, mpT3, mpT4])
     refine kp0 (l.length - (s + 1)) 3 (by omega) (by first|exact xb0|fail) (by omega) (by simp) (by simp [Blk.below, idsE, idsL, AV.ids, hidR, hidA, qbO9]) ⟨s + 1, by omega, rfl, by rw [ht2]; rfl, ?_⟩
     simp (disch := (first|exact za0|fail)) only [push_cast, simprocAttr, b1, b5, b6, b24, b25, b26, xi0, AV.ids, idsL]
     rw [if_pos (hidR _)]
   ·obtain rfl : l.length = s := by omega
    rw [hall] at *
    have hS := vda9 (xW0 A (vao9 l ac l.length)) B0 (by rw [xW0, List.flatMap_cons]; simp) (by omega)
    unfold bldB at hS
    rw [hB0] at hS
    repeat' (first|refine nav ?_|(refine g0_ ?_; refine goD ?_)|(with_reducible refine gG ?_ ?_)|((with_reducible refine And.intro (fun h => ?_) (fun h => ?_)) <;> try (exfalso; omega))|(with_reducible refine andG ?_)|(first|(refine ⟨_, _, hS, ?_⟩)|(refine ⟨_, hS, ?_⟩)|(refine ⟨_, fun _ => hS, ?_⟩))|simp (disch := (first|exact za0|fail)) only [push_cast, simprocAttr, b1, b5, b6, b24, b25, b26, hRl])
 ·rw [if_pos h0]
  unfold dA at *
  generalize rowL l = RN at *
  generalize kd0 ac = BA at *
  refine vd0 0 44 [.tmp 2, .tmp 3] Tryz.func27 rfl rfl rfl (by simp) ?_
  intro s ⟨a0, hz⟩
  clear hz
  repeat' (first|refine nav ?_|(refine g0_ ?_; refine goD ?_)|(with_reducible refine gG ?_ ?_)|((with_reducible refine And.intro (fun h => ?_) (fun h => ?_)) <;> try (exfalso; omega))|(with_reducible refine andG ?_)|(first|(refine ⟨_, _, qa0 (hck) (by (simp [idsL, idsE, AV.ids, hidR, hidA])) _, ?_⟩)|(refine ⟨_, qa0 (hck) (by (simp [idsL, idsE, AV.ids, hidR, hidA])) _, ?_⟩)|(refine ⟨_, fun _ => qa0 (hck) (by (simp [idsL, idsE, AV.ids, hidR, hidA])) _, ?_⟩))|simp (disch := (first|exact za0|fail)) only [push_cast, simprocAttr, a0])
end Go.Proofs
namespace Go.Proofs
open Go Go.V Go.RowKit
set_option linter.unusedVariables false
set_option linter.unusedSimpArgs false
set_option maxHeartbeats 0
end Go.Proofs
namespace Go.Proofs
open Go Go.V Go.RowKit
set_option linter.unusedVariables false
set_option linter.unusedSimpArgs false
set_option maxHeartbeats 0
theorem kJ0 (ps : List Bs) : (strs ps).length = ps.length := by simp [strs]
theorem vbn9 (ps : List Bs) (k : Nat) (h : k < ps.length) : (strs ps).getD k [] = [.str (ps.getD k [])] := by simp [strs, h]
theorem wad9 (p : Nat → Bool) (ps : List Bs) : idsE p (strs ps) = true := zr0 _ _ fun x => by simp [idsL, AV.ids]
theorem zeg9 : ∀ (p : Bs), digs p → p.length ≤ 4 → numF 0 p ≤ 9999
 | [], _, _ => by simp [numF]
 | [c], h, _ => by have := h c (by simp); simp only [numF]; omega
 | [c, d], h, _ => by
  have := h c (by simp); have := h d (by simp)
  simp only [numF]; omega
 | [c, d, e], h, _ => by
  have := h c (by simp); have := h d (by simp); have := h e (by simp)
  simp only [numF]; omega
 | [c, d, e, f], h, _ => by
  have := h c (by simp); have := h d (by simp); have := h e (by simp); have := h f (by simp)
  simp only [numF]; omega
 | _ :: _ :: _ :: _ :: _ :: _, _, h => by simp at h
theorem kaj9 {f : Bs} {x : Int} (h : int4 f = some x) : 0 ≤ x ∧ x ≤ 9999 ∧ f.length ≤ 4 := by
 unfold int4 at h
 split at h
 ·rename_i q
  injection h with h; subst h
  exact ⟨zbx9 f 0 (by omega) q.1.2.1, zeg9 f q.1.2.1 q.2, q.2⟩
 ·cases h
theorem kcF9 {n : Int} (h : 0 ≤ n ∧ n ≤ 9999) : qZ0 (Lib.itoa n) = (n, true) := by
 have hf : ∀ a b : Fin 100, qZ0 (Lib.itoa ((100 * a.1 + b.1 : Nat) : Int)) = (((100 * a.1 + b.1 : Nat) : Int), true) := by decide +kernel
 have := hf ⟨n.toNat / 100, by omega⟩ ⟨n.toNat % 100, by omega⟩
 have e : ((100 * (n.toNat / 100) + n.toNat % 100 : Nat) : Int) = n := by omega
 simp only [e] at this
 exact this
theorem qcG9 {f : Bs} {x : Int} (h : int4 f = some x) : qZ0 f = (x, true) := by
 rw [← kaB9 h]; exact kcF9 ⟨(kaj9 h).1, (kaj9 h).2.1⟩
theorem zdB9 {f : Bs} {v : Int} (h : Lib.itoa v = f) (h4 : f.length ≤ 4) (h0 : 0 ≤ v) : int4 f = some v := by
 obtain ⟨a, b, _⟩ := xP0 v.toNat v h0 (by omega)
 rw [h] at a b
 rw [int4, if_pos ⟨a, h4⟩, b]
theorem vaQ9 : ∀ (l : List Bs) (f : Bs), zo0 (l ++ [f]) = match zo0 l, int4 f with|some xs, some x => some (xs ++ [x])|_, _ => none
 | [], f => by cases h : int4 f <;> simp [zo0, h]
 | g :: l, f => by
  rw [List.cons_append, zo0, vaQ9 l f, zo0]
  cases int4 g <;> cases zo0 l <;> cases int4 f <;> simp
theorem kaQ9 : ∀ (l r : List Bs), zo0 l = none → zo0 (l ++ r) = none
 | [], r, h => by cases h
 | g :: l, r, h => by
  rw [List.cons_append, zo0]
  rw [zo0] at h
  cases hg : int4 g with
  | none => simp
  | some x =>
   rw [hg] at h
   cases hl : zo0 l with
   | none => rw [kaQ9 l r hl]
   | some xs => rw [hl] at h; simp at h
theorem kcd9 {l : List Bs} {k : Nat} {xs : List Int} (hk : k < l.length) (h : zo0 (l.take k) = some xs) : (∀ x, int4 (l.getD k []) = some x → zo0 (l.take (k + 1)) = some (xs ++ [x])) ∧ (int4 (l.getD k []) = none → zo0 l = none) := by
 have e := vaQ9 (l.take k) (l.getD k [])
 rw [← zg0 l [] k hk, h] at e
 refine ⟨fun x hx => by rw [e, hx], fun hx => ?_⟩
 rw [hx] at e
 rw [← List.take_append_drop (k + 1) l]
 exact kaQ9 _ _ e
theorem kbn9 : ∀ {l : List Bs} {xs : List Int}, zo0 l = some xs → xs.length = l.length := fun h => by
 have := congrArg List.length (qQ0 h)
 simpa using this
theorem qce9 (l : Bs) {v : Int} (h : Lib.atoiAll l = .ok v) : -9223372036854775808 ≤ v ∧ v ≤ 9223372036854775807 := by
 unfold Lib.atoiAll at h
 split at h
 ·cases h
 ·rename_i c r
  simp only at h
  split at h
  ·cases h
  ·cases h
  ·rename_i u _
   split at h
   ·cases h
   ·split at h
    ·cases h
    ·rename_i h1 h2
     injection h with h
     subst h
     by_cases hn : c.toNat = 45
     ·rw [if_pos hn]
      have : ¬ 9223372036854775808 < u := fun q => h2 ⟨hn, q⟩
      omega
     ·rw [if_neg hn]
      have : ¬ 9223372036854775808 ≤ u := fun q => h1 ⟨hn, q⟩
      omega
theorem qdb9 (l : Bs) : -9223372036854775808 ≤ (qZ0 l).1 ∧ (qZ0 l).1 ≤ 9223372036854775807 := by
 unfold qZ0
 split
 ·rename_i v h; exact qce9 l h
 ·simp
 ·unfold Lib.atoiSat
  split <;> simp
def qbo9 (l : List Bs) : AV := match zo0 l with|some xs => .tup [.sl 1 (ints xs) (some xs.length), .bool true]|none => .tup [.sl 0 [] (some 0), .bool false]
set_option maxRecDepth 100000 in
theorem zbo9 (z : Nat) (l : List Bs) (c : Option Nat) (hz : l = [] ∨ z = 1) (hl : l.length ≤ 1000000) (hb : ∀ f ∈ l, f.length ≤ 1000000) : PC Tryz.prog G0 72 [.sl z (strs l) c] (qbo9 l) := by
 have hSl := kJ0 l
 have hidS : ∀ p, idsE p (strs l) = true := fun p => wad9 _ _
 have hno : zo0 l = none → qbo9 l = .tup [.sl 0 [] (some 0), .bool false] := fun h => by rw [qbo9, h]
 have hyes : ∀ xs, zo0 l = some xs → qbo9 l = .tup [.sl 1 (ints xs) (some xs.length), .bool true] := fun xs h => by rw [qbo9, h]
 generalize qbo9 l = R at *
 refine vd0 1 43 [.tmp 2, .tmp 3] Tryz.func72 rfl rfl rfl (by simp) ?_
 intro s ⟨a0, hz⟩
 clear hz
 repeat' (first|refine nav ?_|(refine g0_ ?_; refine goD ?_)|(with_reducible refine gG ?_ ?_)|((with_reducible refine And.intro (fun h => ?_) (fun h => ?_)) <;> try (exfalso; omega))|(with_reducible refine andG ?_)|fail|simp (disch := (first|exact za0|fail)) only [push_cast, simprocAttr, a0, hSl])
 refine go_loop rfl (fun mz s' H' => ∃ (k : Nat) (xs : List Int), k ≤ l.length ∧ mz = l.length - k ∧ zo0 (l.take k) = some xs ∧ H' = [.row 1 3 (ints xs)] ∧ s' 2 = .own 0 k k none ∧ s' 8 = .sl z (strs l) c ∧ s' 9 = .int .i64 l.length ∧ s' 10 = .int .i64 k) (m := l.length) (by first|exact xb0|fail) (zp0 (t := 2) (sz := 1) (ty := 3) rfl) ⟨0, [], by omega, by omega, rfl, rfl, ?_⟩ ?_
 ·simp (disch := (first|exact za0|fail)) only [push_cast, simprocAttr, a0, hSl]
 ·rintro mz s' H' ⟨k, xs, hk, rfl, hxs, rfl, b2, b8, b9, b10⟩
  have hxl := kbn9 hxs
  rw [List.length_take, Nat.min_eq_left hk] at hxl
  have hil := ka0 xs
  rcases Nat.lt_or_ge k l.length with hlt|hge
  ·obtain rfl := hz.resolve_left (by intro h; rw [h] at hlt; simp at hlt)
   have e1 := vbn9 l k hlt
   have hnx := kcd9 hlt hxs
   have hfl := hb _ (qd0 (d := []) hlt)
   have hat := fun H => xdS9 H (l.getD k []) (by omega)
   have hia := @qcG9 (l.getD k [])
   have hio := fun v => @zdB9 (l.getD k []) v
   have hsn := fun v => xm0 xs v
   have hids : ∀ p, idsE p (ints xs) = true := fun p => va0 _ _
   generalize l.getD k [] = f at *
   generalize hav : qZ0 f = av at *
   obtain ⟨v, ok⟩ := av
   have hvb : -9223372036854775808 ≤ v ∧ v ≤ 9223372036854775807 := by have := qdb9 f; rw [hav] at this; exact this
   have hI := fun H => xdj9 H v hvb.1 hvb.2
   have hbad : int4 f = none → R = .tup [.sl 0 [] (some 0), .bool false] := fun h => hno (hnx.2 h)
   have hgood : ∀ x, int4 f = some x → ok = true ∧ v = x := fun x h => by
    have := hia h; injection this with h1 h2; exact ⟨h2, h1⟩
   have hn4 : (¬ (ok = true ∧ f.length ≤ 4 ∧ Lib.itoa v = f ∧ 0 ≤ v)) → int4 f = none := fun h => by
    cases h4 : int4 f with
    | none => rfl
    | some x =>
     obtain ⟨rfl, rfl⟩ := hgood x h4
     exact absurd ⟨rfl, (kaj9 h4).2.2, kaB9 h4, (kaj9 h4).1⟩ h
   cases ok with
   | false =>
    have hR := hbad (hn4 (by simp))
    rw [hR]
    repeat' (first|refine nav ?_|(refine g0_ ?_; refine goD ?_)|(with_reducible refine gG ?_ ?_)|((with_reducible refine And.intro (fun h => ?_) (fun h => ?_)) <;> try (exfalso; omega))|(with_reducible refine andG ?_)|(first|(refine ⟨_, _, hat _, ?_⟩)|(refine ⟨_, hat _, ?_⟩)|(refine ⟨_, fun _ => hat _, ?_⟩))|simp (disch := (first|exact za0|fail)) only [push_cast, simprocAttr, b2, b8, b9, b10, e1, hSl, errA, vn0])
    refine ⟨.top, ?_⟩
    repeat' (first|refine nav ?_|(refine g0_ ?_; refine goD ?_)|(with_reducible refine gG ?_ ?_)|((with_reducible refine And.intro (fun h => ?_) (fun h => ?_)) <;> try (exfalso; omega))|(with_reducible refine andG ?_)|(first|(refine ⟨_, _, hat _, ?_⟩)|(refine ⟨_, hat _, ?_⟩)|(refine ⟨_, fun _ => hat _, ?_⟩))|simp (disch := (first|exact za0|fail)) only [push_cast, simprocAttr, b2, b8, b9, b10, e1, hSl, errA, vn0])
   | true =>
    by_cases c1 : 4 < f.length
    ·have hR := hbad (hn4 (by rintro ⟨_, q, _⟩; omega))
     rw [hR]
     have c1' : (4 : Int) < f.length := by omega
     repeat' (first|refine nav ?_|(refine g0_ ?_; refine goD ?_)|(with_reducible refine gG ?_ ?_)|((with_reducible refine And.intro (fun h => ?_) (fun h => ?_)) <;> try (exfalso; omega))|(with_reducible refine andG ?_)|(first|(refine ⟨_, _, hat _, ?_⟩)|(refine ⟨_, hat _, ?_⟩)|(refine ⟨_, fun _ => hat _, ?_⟩))|simp (disch := (first|exact za0|fail)) only [push_cast, simprocAttr, b2, b8, b9, b10, e1, hSl, errA, vn0, c1'])
     refine ⟨.top, ?_⟩
     repeat' (first|refine nav ?_|(refine g0_ ?_; refine goD ?_)|(with_reducible refine gG ?_ ?_)|((with_reducible refine And.intro (fun h => ?_) (fun h => ?_)) <;> try (exfalso; omega))|(with_reducible refine andG ?_)|(first|(refine ⟨_, _, hat _, ?_⟩)|(refine ⟨_, hat _, ?_⟩)|(refine ⟨_, fun _ => hat _, ?_⟩))|simp (disch := (first|exact za0|fail)) only [push_cast, simprocAttr, b2, b8, b9, b10, e1, hSl, errA, vn0, c1'])
    ·have c1' : ¬ (4 : Int) < f.length := by omega
     by_cases c2 : Lib.itoa v = f
     ·by_cases c3 : v < 0
      ·have hR := hbad (hn4 (by rintro ⟨_, _, _, q⟩; omega))
       rw [hR]
       repeat' (first|refine nav ?_|(refine g0_ ?_; refine goD ?_)|(with_reducible refine gG ?_ ?_)|((with_reducible refine And.intro (fun h => ?_) (fun h => ?_)) <;> try (exfalso; omega))|(with_reducible refine andG ?_)|(first|(refine ⟨_, _, hat _, ?_⟩)|(refine ⟨_, hat _, ?_⟩)|(refine ⟨_, fun _ => hat _, ?_⟩)|(refine ⟨_, _, hI _, ?_⟩)|(refine ⟨_, hI _, ?_⟩)|(refine ⟨_, fun _ => hI _, ?_⟩))|simp (disch := (first|exact za0|fail)) only [push_cast, simprocAttr, b2, b8, b9, b10, e1, hSl, errA, vn0, c1', c2, c3])
      ·have hx := hnx.1 v (hio v c2 (by omega) (by omega))
       repeat' (first|refine nav ?_|(refine g0_ ?_; refine goD ?_)|(with_reducible refine gG ?_ ?_)|((with_reducible refine And.intro (fun h => ?_) (fun h => ?_)) <;> try (exfalso; omega))|(with_reducible refine andG ?_)|(first|(refine ⟨_, _, hat _, ?_⟩)|(refine ⟨_, hat _, ?_⟩)|(refine ⟨_, fun _ => hat _, ?_⟩)|(refine ⟨_, _, hI _, ?_⟩)|(refine ⟨_, hI _, ?_⟩)|(refine ⟨_, fun _ => hI _, ?_⟩))|simp (disch := (first|exact za0|fail)) only [push_cast, simprocAttr, b2, b8, b9, b10, e1, hSl, errA, vn0, c1', c2, c3, hil, hxl])
       refine xa0 (l.length - (k + 1)) (by omega) (by first|exact xb0|fail) ⟨k + 1, xs ++ [v], by omega, rfl, hx, by rw [← hsn], ?_⟩
       simp (disch := (first|exact za0|fail)) only [push_cast, simprocAttr, b2, b8, b9, b10, e1, hSl, errA, vn0, c1', c2, c3, hil, hxl]
     ·have hR := hbad (hn4 (by rintro ⟨_, _, q, _⟩; exact c2 q))
      rw [hR]
      repeat' (first|refine nav ?_|(refine g0_ ?_; refine goD ?_)|(with_reducible refine gG ?_ ?_)|((with_reducible refine And.intro (fun h => ?_) (fun h => ?_)) <;> try (exfalso; omega))|(with_reducible refine andG ?_)|(first|(refine ⟨_, _, hat _, ?_⟩)|(refine ⟨_, hat _, ?_⟩)|(refine ⟨_, fun _ => hat _, ?_⟩)|(refine ⟨_, _, hI _, ?_⟩)|(refine ⟨_, hI _, ?_⟩)|(refine ⟨_, fun _ => hI _, ?_⟩))|simp (disch := (first|exact za0|fail)) only [push_cast, simprocAttr, b2, b8, b9, b10, e1, hSl, errA, vn0, c1', c2])
  ·obtain rfl : l.length = k := by omega
   rw [List.take_length] at hxs
   rw [hyes xs hxs]
   have hcl := fun H hb => zaP9 0 l.length l.length 3 (ints xs) none H hb (by omega) (Nat.le_refl _)
   have hids : ∀ p, idsE p (ints xs) = true := fun p => va0 _ _
   repeat' (first|refine nav ?_|(refine g0_ ?_; refine goD ?_)|(with_reducible refine gG ?_ ?_)|((with_reducible refine And.intro (fun h => ?_) (fun h => ?_)) <;> try (exfalso; omega))|(with_reducible refine andG ?_)|(first|(refine ⟨_, _, hcl _ rfl, ?_⟩)|(refine ⟨_, hcl _ rfl, ?_⟩)|(refine ⟨_, fun _ => hcl _ rfl, ?_⟩))|simp (disch := (first|exact za0|fail)) only [push_cast, simprocAttr, b2, b8, b9, b10, hil, hxl])
end Go.Proofs
