import Derived.Test.YtlpjemobbjijdaaGreatDoorAP9
import Derived.Test.YtlpjemobbjijdaaGreatDoorST
import Derived.Test.YtlpjemobbjijdaaGreatDoorV33
import Derived.Test.YtlpjemobbjijdaaGreatDoorV51
import Derived.Test.YtlpjemobbjijdaaGreatDoorV64
import Derived.Test.YtlpjemobbjijdaaGreatDoorV69
import Derived.Test.YtlpjemobbjijdaaGreatDoorLP2
import Derived.Test.YtlpjemobbjijdaaGreatDoorSShelf
import Derived.Shelf.Strings.SlTrimAscii
namespace Go.Proofs
set_option linter.unusedVariables false
end Go.Proofs
namespace Go.Proofs
open Go Go.V
set_option linter.unusedVariables false
set_option linter.unusedSimpArgs false
def wbj9 : List AV := [.str [45, 62], .str [60, 61], .str [62, 61], .str [33, 61], .str [58, 61]]
def G0 : Glob := fun g => match g with|0 => some [.anyi .i64]|1 => some wbj9|_ => none
theorem G0_1 : G0 1 = some wbj9 := rfl
def tkA (t : Tk) : List AV := [.int .u8 t.k, .str t.t, .int .i64 t.l, .int .i64 t.c]
def tks (l : List Tk) : List (List AV) := l.map tkA
theorem ve0 (l : List Tk) : (tks l).length = l.length := by simp [tks]
theorem wS0 (l : List Tk) (k : Nat) (h : k < l.length) : (tks l).getD k [] = tkA (l.getD k tk0) := by simp [tks, h]
theorem vG0 (p : Nat → Bool) (l : List Tk) : idsE p (tks l) = true := zt0 _ _ fun x => by simp [tkA, idsL, AV.ids]
theorem wa0 (p : Nat → Bool) (ps : List (List UInt8)) : idsE p (strs ps) = true := zt0 _ _ fun x => by simp [idsL, AV.ids]
theorem qp0 {p : Nat → Bool} {es : List (List AV)} (h : idsE p es = true) : (es.all fun e => e.all fun x => AV.ids p x) = true := by
 have hl : ∀ e : List AV, idsL p e = true → (e.all fun x => AV.ids p x) = true := fun e => by
  induction e with
  | nil => intro _; rfl
  | cons x xs ih => intro h; rw [idsL, Bool.and_eq_true] at h; rw [List.all_cons, h.1, ih h.2]; rfl
 induction es with
 | nil => rfl
 | cons e es ih => rw [idsE, Bool.and_eq_true] at h; rw [List.all_cons, hl e h.1, ih h.2]; rfl
theorem xbQ9 (p : Nat → Bool) (l : List Tk) : ((tks l).all fun e => e.all fun x => AV.ids p x) = true := qp0 (vG0 p l)
theorem vbj9 (p : Nat → Bool) (l : List (List UInt8)) : ((strs l).all fun e => e.all fun x => AV.ids p x) = true := qp0 (wa0 p l)
theorem kcG9 : tks [] = [] := rfl
theorem kbj9 : strs [] = [] := rfl
theorem xcl9 (l : List Tk) (x : Tk) : tks l ++ [tkA x] = tks (l ++ [x]) := by simp [tks]
theorem xb0 (ps : List (List UInt8)) : (strs ps).length = ps.length := by simp [strs]
theorem wi0 (ps : List (List UInt8)) (k : Nat) (h : k < ps.length) : (strs ps).getD k [] = [.str (ps.getD k [])] := by simp [strs, h]
theorem wbQ9 (n : Int) (h1 : -9223372036854775808 ≤ n) (h2 : n < 9223372036854775808) : IntKind.i64.wrap n = n := by rw [IntKind.wrap_i64]; omega
theorem qaD9 {α : Type} {l r : List α} (d : α) (h : l.length = r.length) (hh : ∀ j, j < l.length → l.getD j d = r.getD j d) : l = r := by
 refine List.ext_getElem h fun j h1 h2 => ?_
 have := hh j h1
 simpa [h1, h2] using this
theorem vl0 {α : Type} {l : List α} {k : Nat} (d : α) (h : k < l.length) : l.getD k d ∈ l := by
 rw [List.getD_eq_getElem?_getD, List.getElem?_eq_getElem h]; exact List.getElem_mem h
theorem getD_some {l : List UInt8} {k : Nat} (h : k < l.length) : l[k]? = some (l.getD k 0) := by simp [h]
abbrev Edg := Int × Int
abbrev Row := List Edg × Option Nat
def eA (e : Edg) : List AV := [.int .i64 e.1, .int .i64 e.2]
def rowA (r : List Edg) : List (List AV) := r.map eA
def qe0 (l : List Row) : List (List AV) := l.map fun r => [.sl 2 (rowA r.1) r.2]
def ints (xs : List Int) : List (List AV) := xs.map fun x => [.int .i64 x]
theorem zi0 (r : List Edg) : (rowA r).length = r.length := by simp [rowA]
theorem vr0 (l : List Row) : (qe0 l).length = l.length := by simp [qe0]
theorem ke0 (xs : List Int) : (ints xs).length = xs.length := by simp [ints]
theorem kv0 (r : List Edg) (k : Nat) (h : k < r.length) : (rowA r).getD k [] = eA (r.getD k (0, 0)) := by simp [rowA, h]
theorem qz0 (l : List Row) (k : Nat) (h : k < l.length) : (qe0 l).getD k [] = [.sl 2 (rowA (l.getD k ([], none)).1) (l.getD k ([], none)).2] := by simp [qe0, h]
theorem kr0 (xs : List Int) (k : Nat) (h : k < xs.length) : (ints xs).getD k [] = [.int .i64 (xs.getD k 0)] := by simp [ints, h]
theorem wn0 (p : Nat → Bool) (r : List Edg) : idsE p (rowA r) = true := zt0 _ _ fun x => by simp [eA, idsL, AV.ids]
theorem kf0 (p : Nat → Bool) (l : List Row) : idsE p (qe0 l) = true := zt0 _ _ fun x => by simp [idsL, AV.ids, wn0]
theorem kj0 (p : Nat → Bool) (xs : List Int) : idsE p (ints xs) = true := zt0 _ _ fun x => by simp [idsL, AV.ids]
theorem kam9 (p : Nat → Bool) (a b : List (List AV)) : idsE p (a ++ b) = (idsE p a && idsE p b) := by
 induction a with
 | nil => simp [idsE]
 | cons x xs ih => simp [idsE, ih, Bool.and_assoc]
theorem wcl9 (p : Nat → Bool) (r : List Edg) : ((rowA r).all fun e => e.all fun x => AV.ids p x) = true := qp0 (wn0 p r)
theorem vbQ9 (p : Nat → Bool) (l : List Row) : ((qe0 l).all fun e => e.all fun x => AV.ids p x) = true := qp0 (kf0 p l)
theorem zaD9 (p : Nat → Bool) (xs : List Int) : ((ints xs).all fun e => e.all fun x => AV.ids p x) = true := qp0 (kj0 p xs)
theorem vcl9 : ints [] = [] := rfl
theorem qar9 {P : Nat → Prop} {k : Nat} (h : ∀ j, j < k → P j) (hk : P k) : ∀ j, j < k + 1 → P j := fun j hj => by
 rcases Nat.lt_or_ge j k with q|q
 ·exact h j q
 ·obtain rfl : j = k := by omega
  exact hk
def mA (i o : Int) (l : List Row) (c : Option Nat) : AV := .agg [.int .i64 i, .int .i64 o, .sl 1 (qe0 l) c]
theorem xct9 {P : Program} {t : TypeId} {T : TI} (h : zb0 P t = some T) : shp P t = T.shape := by simp [shp, h]
theorem vcX9 (d : Nat) (a b : Int) : eqA Tryz.prog (d + 1) 3 (.int .i64 a) (.int .i64 b) = (true, decide (a = b)) := vcC9 (xct9 ti3) a b
theorem kcX9 (d : Nat) (a b a' b' : Int) : eqA Tryz.prog (d + 2) 70 (.agg [.int .i64 a, .int .i64 b]) (.agg [.int .i64 a', .int .i64 b']) = (true, decide (a = a') && decide (b = b')) := by
 rw [wbr9 (xct9 ti70)]
 simp only [List.foldr_cons, List.foldr_nil, ti3, vbr9]
 simp [vcX9, cut, vn0]
theorem eq3 (a b : Int) : eqA Tryz.prog 8 3 (.int .i64 a) (.int .i64 b) = (true, decide (a = b)) := vcX9 7 a b
theorem eq70 (a b a' b' : Int) : eqA Tryz.prog 8 70 (.agg [.int .i64 a, .int .i64 b]) (.agg [.int .i64 a', .int .i64 b']) = (true, decide (a = a') && decide (b = b')) := kcX9 6 a b a' b'
theorem lenS {α : Type} : (∀ (l : List α) (i : Nat) (a : α), (l.set i a).length = l.length) ∧ (∀ l : List α, l.reverse.length = l.length) ∧ (∀ (n : Nat) (a : α), (List.replicate n a).length = n) ∧ (∀ l r : List α, (l ++ r).length = l.length + r.length) ∧ (∀ (a : α) (l : List α), (a :: l).length = l.length + 1) ∧ (([] : List α).length = 0) ∧ (∀ (n : Nat) (l : List α), (l.take n).length = min n l.length) ∧ (∀ (n : Nat) (l : List α), (l.drop n).length = l.length - n) := by
 refine ⟨?_, ?_, ?_, ?_, ?_, ?_, ?_, ?_⟩ <;> intros <;> simp
theorem lenF : (∀ xs, (ints xs).length = xs.length) ∧ (∀ r, (rowA r).length = r.length) ∧ (∀ l, (qe0 l).length = l.length) ∧ (∀ l, (tks l).length = l.length) ∧ (∀ l, (strs l).length = l.length) := ⟨ke0, zi0, vr0, ve0, xb0⟩
theorem kb0 {p : Prop} (h : p := by first|trivial|((repeat' apply And.intro) <;> first|trivial|assumption|omega|(simp only [maxLen]; omega)|(simp only [lenF, lenS, List.length_map, maxLen] <;> omega))) : p := h
theorem discB {p : Prop} (h : p := by first|omega|(simp only [lenF, lenS, List.length_map]; omega)) : p := h
attribute [simp] vG0 wa0 wn0 kf0 kj0 kam9
attribute [push_cast] vG0 wa0 xbQ9 vbj9 ve0 xb0 wcl9 vbQ9 zaD9 zi0 vr0 ke0 wbQ9 eq3 eq70 Bool.eq_true_or_eq_false_self Bool.eq_false_or_eq_true_self Bool.not_or_self Bool.or_not_self Bool.and_self Bool.or_self Bool.not_not Bool.and_not_self Bool.not_and_self
attribute [push_cast] ti1 ti3 ti4 ti5 ti9 ti21 ti22 ti24 ti25 ti27 ti29 ti36 ti42 ti44 ti46 ti50 ti54 ti55 ti59 ti70 et70 ti71 ti72 ti82 ti87 ti89 ti99 vdg9 kdg9 qdh9 zdh9 xdh9 wdh9 vdh9 kdh9 qdi9 zdi9 xdi9 wdi9 vdi9 kdi9 qdj9 zdj9 xdj9 wdj9 vdj9 kdj9 qdk9 zdk9 xdk9 wdk9 vdk9 kdk9 qdl9 zdl9 xdl9 wdl9 en12 en13 en14 en16 en17 en18 en19 en20 en21 en22 en27 en28 en30 en31 en37 en38 en39 en40 en41 en42 en43 en44 en45 en46 en47 en48 en49 en50 en51 en52 en53 en54 en55 en56 en57 en58 en59 en60 en61 en62 en63 en64 en65 en66 en67 en68 en77 en80 en81 en82 en83 en84 en85 en86 en87 en88 en89 en90 en91 en92 en93 en94 en95 en96 en97 en98 en99 vdl9 kdl9 qdm9 vaC9 vcj9 kcj9 zdm9 xbv9 qam9 xdm9 wdm9 vdm9 kdm9 qdn9 zdn9 xdn9 wdn9 vdn9 kdn9 qdo9 zdo9 xdo9 wdo9 qck9 vdo9 kdo9 qdp9 zdp9 xdp9 wdp9 vdp9 kdp9 qdq9 zdq9 xdq9 wdq9 vdq9 kdq9 qdr9 zdr9 xdr9 wdr9 vdr9 kdr9 qds9 zds9 xds9 wds9 vds9 kds9 qdt9 zdt9 xdt9 wdt9 vdt9 kdt9 qdu9 zdu9 xdu9 wdu9 vdu9 kdu9 qdv9 zdv9 xdv9 wdv9 vdv9
end Go.Proofs
namespace Go.Proofs
open Go Go.V
set_option linter.unusedVariables false
set_option linter.unusedSimpArgs false
set_option maxHeartbeats 0
set_option maxRecDepth 100000
theorem goD {ρ : Bool} {G : Glob} {n0 n : Nat} {body : Code} {p : List Nat} {Q : ze0} {B : Prop} {s : Nat → AV} {H : List Blk} (h : Acc ρ Tryz.prog G n0 n allQ body p Q 0 B s H) (hs : wl0 (atR body p) = true := by rfl) (hd : zB0 (atR body p) = true := by rfl) (ho : xai9 allQ (kc0 (atR body p)) = true := by first | assumption | kernel_rfl) : Go ρ Tryz.prog G n0 n body p Q B s H := kai9 (dr := allQ) hs hd mixed ho h
theorem appG {p q : Prop} (k : q) (h : p := by first | exact ⟨[_], rfl⟩ | exact ⟨[], by simp only [List.append_nil]⟩) : p ∧ q := ⟨h, k⟩
theorem gG {ρ ρ' : Bool} {P P' : Program} {G G' : Glob} {n0 n0' n n' : Nat} {body body' : Code} {p p' : List Nat} {Q Q' : ze0} {s s' : Nat → AV} {H H' : List Blk} (h1 : Go ρ P G n0 n body p Q True s H) (h2 : Go ρ' P' G' n0' n' body' p' Q' True s' H') : At ρ P G n0 n body p Q s H ∧ At ρ' P' G' n0' n' body' p' Q' s' H' := ⟨h1.2, h2.2⟩
theorem qbw9 (H : List Blk) (s p : List UInt8) : va0 Tryz.prog G0 152 [.str s, .str p] H (.bool (Lib.hasPrefix s p)) H := kbL9 Tryz.strings_HasPrefix s p
theorem qcY9 (H : List Blk) (s : List UInt8) (c : UInt8) (n : Int) (hn : n = (c.toNat : Int)) : va0 Tryz.prog G0 125 [.str s, .int .u8 n] H (.int .i64 (Lib.indexByte s c)) H := wcg9 Tryz.strings_IndexByte s c n hn
theorem zcY9 (H : List Blk) (s : List UInt8) (hs : s.length ≤ 1000000) : va0 Tryz.prog G0 99 [.str s, .int .u8 10] H (.int .i64 (Lib.lastIndexByte ⟨s.toArray⟩ 10)) H := xaN9 Tryz.strings_LastIndexByte s 10 (by omega)
theorem zdw9 (H : List Blk) (s : List UInt8) : va0 Tryz.prog G0 98 [.str s, .str [10]] H (.int .i64 ((s.count 10 : Nat) : Int)) H := vcg9 Tryz.strings_Count_one s 10
theorem xcY9 (H : List Blk) (s : List UInt8) : va0 Tryz.prog G0 151 [.str s, .str [48, 49, 50, 51, 52, 53, 54, 55, 56, 57]] H (.str (Lib.trimLeftS s [48, 49, 50, 51, 52, 53, 54, 55, 56, 57])) H := xaY9 (fun s c w h1 h2 => Any.strings_TrimLeft_laid Tryz.lays161 (by kernel_rfl) s c w h1 h2) s _ (by decide) (by decide)
theorem xaQ9 (H : List Blk) (x : AV) (xs : List (List UInt8)) (sep : List UInt8) (hx : zbI9 H x xs) (h1 : (Lib.join xs sep).length ≤ 140737488355328) (h2 : xs.length ≤ 140737488355328) : va0 Tryz.prog G0 50 [x, .str sep] H (.str (Lib.join xs sep)) H :=
 qcD9 hx (fun a c sep w => Tryz.strings_Join_none a c sep w) (fun bk o c xs sep w h1 h2 h3 h4 h5 => Tryz.strings_Join bk o c xs sep w h1 h2 h3 h4 h5) sep h1 h2
end Go.Proofs
namespace Go.Proofs
open Go Go.V
set_option linter.unusedVariables false
set_option linter.unusedSimpArgs false
set_option maxHeartbeats 0
set_option maxRecDepth 100000
theorem qbk9 (c : UInt8) : PC Tryz.prog G0 150 [.int .u8 (c.toNat : Int)] (.bool (letB c)) := by
 refine qd0 0 17 [.tmp 2] Tryz.func150 rfl rfl rfl (by simp) ?_
 intro s ⟨a0, hz⟩
 clear hz
 repeat' (first|refine nav ?_|(refine g0_ ?_; refine goD ?_)|(with_reducible refine gG ?_ ?_)|((with_reducible refine And.intro (fun h => ?_) (fun h => ?_)) <;> try (exfalso; omega))|(with_reducible refine andG ?_)|fail|simp (disch := (first|exact discB|fail)) only [push_cast, simprocAttr, a0])
 all_goals (congr 1; first|rfl|(rw [Bool.eq_iff_iff]; simp only [letB, digB, wrdB, Bool.or_eq_true, Bool.and_eq_true, decide_eq_true_eq]; omega)|(simp only [letB, digB, wrdB, Bool.or_eq_true, Bool.and_eq_true, decide_eq_true_eq, Bool.eq_false_iff, ne_eq, eq_comm (a := true), eq_comm (a := false), if_pos, if_neg] at *; omega))
theorem qcH9 (c : UInt8) : PC Tryz.prog G0 166 [.int .u8 (c.toNat : Int)] (.bool (digB c)) := by
 refine qd0 0 9 [.tmp 2] Tryz.func166 rfl rfl rfl (by simp) ?_
 intro s ⟨a0, hz⟩
 clear hz
 repeat' (first|refine nav ?_|(refine g0_ ?_; refine goD ?_)|(with_reducible refine gG ?_ ?_)|((with_reducible refine And.intro (fun h => ?_) (fun h => ?_)) <;> try (exfalso; omega))|(with_reducible refine andG ?_)|fail|simp (disch := (first|exact discB|fail)) only [push_cast, simprocAttr, a0])
 all_goals (congr 1; first|rfl|(rw [Bool.eq_iff_iff]; simp only [letB, digB, wrdB, Bool.or_eq_true, Bool.and_eq_true, decide_eq_true_eq]; omega)|(simp only [letB, digB, wrdB, Bool.or_eq_true, Bool.and_eq_true, decide_eq_true_eq, Bool.eq_false_iff, ne_eq, eq_comm (a := true), eq_comm (a := false), if_pos, if_neg] at *; omega))
theorem kcl9 (c : UInt8) : PC Tryz.prog G0 149 [.int .u8 (c.toNat : Int)] (.bool (wrdB c)) := by
 have h1 := qbk9 c
 have h2 := qcH9 c
 have hw : wrdB c = (letB c || digB c || decide (c.toNat = 95)) := rfl
 have e : ((c.toNat : Int) = 95) = (c.toNat = 95) := by apply propext; omega
 rw [hw]
 generalize letB c = x at *
 generalize digB c = y at *
 cases x <;> cases y
 all_goals (
  refine qd0 0 13 [.tmp 2] Tryz.func149 rfl rfl rfl (by simp) ?_
  intro s ⟨a0, hz⟩
  clear hz
  repeat' (first|refine nav ?_|(refine g0_ ?_; refine goD ?_)|(with_reducible refine gG ?_ ?_)|((with_reducible refine And.intro (fun h => ?_) (fun h => ?_)) <;> try (exfalso; omega))|(with_reducible refine andG ?_)|(first|(refine ⟨_, _, qa0 (h1) (by (simp [idsL, idsE, AV.ids, Nat.add_zero])) _, ?_⟩)|(refine ⟨_, qa0 (h1) (by (simp [idsL, idsE, AV.ids, Nat.add_zero])) _, ?_⟩)|(refine ⟨_, fun _ => qa0 (h1) (by (simp [idsL, idsE, AV.ids, Nat.add_zero])) _, ?_⟩)|(refine ⟨_, _, qa0 (h2) (by (simp [idsL, idsE, AV.ids, Nat.add_zero])) _, ?_⟩)|(refine ⟨_, qa0 (h2) (by (simp [idsL, idsE, AV.ids, Nat.add_zero])) _, ?_⟩)|(refine ⟨_, fun _ => qa0 (h2) (by (simp [idsL, idsE, AV.ids, Nat.add_zero])) _, ?_⟩)|(refine ⟨AV.str [], ?_⟩; refine qaJ9 ?_))|simp (disch := (first|exact discB|fail)) only [push_cast, simprocAttr, a0, e]))
def bI (b : Bool) : Int := if b = true then 1 else 0
theorem wcY9 (s0 : Bs) (hs : s0.length ≤ 1000000) : PC Tryz.prog G0 126 [.str s0] (.str (wordS s0)) := by
 have e0 := qu0 s0
 have e1 := kck9 s0
 have e2 := vck9 s0
 have e3 := qaQ9 s0
 rw [← e0]
 generalize (wordS s0).length = L at *
 refine qd0 0 19 [.tmp 2] Tryz.func126 rfl rfl rfl (by simp) ?_
 intro s ⟨a0, hz⟩
 clear hz
 repeat' (first|refine nav ?_|(refine g0_ ?_; refine goD ?_)|(with_reducible refine gG ?_ ?_)|((with_reducible refine And.intro (fun h => ?_) (fun h => ?_)) <;> try (exfalso; omega))|(with_reducible refine andG ?_)|fail|simp (disch := (first|exact discB|fail)) only [push_cast, simprocAttr, a0])
 refine go_loop rfl (fun mz s' H' => ∃ k : Nat, k ≤ L ∧ mz = L - k ∧ H' = [] ∧ s' 0 = .str s0 ∧ s' 3 = .int .i64 k) (m := L) (by first|exact kb0|fail) (Weak.refl _ _) ⟨0, by omega, by omega, rfl, ?_⟩ ?_
 ·(simp (disch := (first|exact discB|fail)) only [push_cast, simprocAttr, a0]) <;> (first|rfl|exact ⟨rfl, rfl⟩|omega|(congr 1; omega)|(simp; done)|((repeat' apply And.intro) <;> first|rfl|omega|(congr 1; omega)))
 ·rintro mz s' H' ⟨k, hk, rfl, rfl, b0, b3⟩
  have h3 := kcl9 (s0.getD k 0)
  rcases Nat.lt_or_ge k L with hlt|hge
  ·obtain ⟨b, hb, hw⟩ := e2 k hlt
   have e4 : s0.getD k 0 = b := by rw [List.getD_eq_getElem?_getD, hb]; rfl
   rw [e4, hw] at h3
   repeat' (first|refine nav ?_|(refine g0_ ?_; refine goD ?_)|(with_reducible refine gG ?_ ?_)|((with_reducible refine And.intro (fun h => ?_) (fun h => ?_)) <;> try (exfalso; omega))|(with_reducible refine andG ?_)|(first|(refine ⟨_, _, qa0 (h3) (by (simp [idsL, idsE, AV.ids, Nat.add_zero])) _, ?_⟩)|(refine ⟨_, qa0 (h3) (by (simp [idsL, idsE, AV.ids, Nat.add_zero])) _, ?_⟩)|(refine ⟨_, fun _ => qa0 (h3) (by (simp [idsL, idsE, AV.ids, Nat.add_zero])) _, ?_⟩))|simp (disch := (first|exact discB|fail)) only [push_cast, simprocAttr, b0, b3, e4])
   refine wb0 (L - (k + 1)) (by omega) (by first|exact kb0|fail) ⟨k + 1, by omega, rfl, rfl, ?_⟩
   simp (disch := (first|exact discB|fail)) only [push_cast, simprocAttr, b0, b3, e4]
  ·obtain rfl : k = L := by omega
   rcases Nat.lt_or_ge k s0.length with hlt|hge2
   ·rcases e3 with q|⟨b, hb, hw⟩
    ·rw [getD_some hlt] at q; cases q
    ·have e4 : s0.getD k 0 = b := by rw [List.getD_eq_getElem?_getD, hb]; rfl
     rw [e4, hw] at h3
     repeat' (first|refine nav ?_|(refine g0_ ?_; refine goD ?_)|(with_reducible refine gG ?_ ?_)|((with_reducible refine And.intro (fun h => ?_) (fun h => ?_)) <;> try (exfalso; omega))|(with_reducible refine andG ?_)|(first|(refine ⟨_, _, qa0 (h3) (by (simp [idsL, idsE, AV.ids, Nat.add_zero])) _, ?_⟩)|(refine ⟨_, qa0 (h3) (by (simp [idsL, idsE, AV.ids, Nat.add_zero])) _, ?_⟩)|(refine ⟨_, fun _ => qa0 (h3) (by (simp [idsL, idsE, AV.ids, Nat.add_zero])) _, ?_⟩))|simp (disch := (first|exact discB|fail)) only [push_cast, simprocAttr, b0, b3, e4])
     all_goals first|omega|rfl
   ·obtain rfl : k = s0.length := by omega
    repeat' (first|refine nav ?_|(refine g0_ ?_; refine goD ?_)|(with_reducible refine gG ?_ ?_)|((with_reducible refine And.intro (fun h => ?_) (fun h => ?_)) <;> try (exfalso; omega))|(with_reducible refine andG ?_)|fail|simp (disch := (first|exact discB|fail)) only [push_cast, simprocAttr, b0, b3])
end Go.Proofs
