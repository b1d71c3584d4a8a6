import Derived.Test.YtlpjemobbjijdaaGreatDoorS35
import Derived.Test.YtlpjemobbjijdaaGreatDoorL1
namespace Go.Proofs
open Go Go.V
set_option linter.unusedVariables false
set_option linter.unusedSimpArgs false
set_option maxHeartbeats 0
set_option maxRecDepth 100000
def nmK (l : List Int) (names : List Bs) (k : Nat) : Bs := Lib.join ((l.take k).map (nmI names)) [32]
theorem qbr9 (l : List Int) (names : List Bs) : nmK l names 0 = [] := by simp [nmK, Lib.join_nil]
theorem wcT9 (l : List Int) (names : List Bs) (h : 0 < l.length) : nmK l names 1 = nmI names (l.getD 0 0) := by
 rw [nmK, wdi9 l 0 h, List.take_zero, List.nil_append, List.map_singleton, Lib.join_one]
theorem kcv9 (l : List Int) (names : List Bs) (k : Nat) (h0 : 0 < k) (h : k < l.length) : nmK l names (k + 1) = nmK l names k ++ [32] ++ nmI names (l.getD k 0) := by
 rw [nmK, wdi9 l k h, List.map_append, List.map_singleton, vaS9 _ _ _ (by intro e; have := congrArg List.length e; rw [List.length_map, List.length_take, List.length_nil] at this; omega), nmK, List.append_assoc]
theorem kcy9 {names : List Bs} (h : ∀ s ∈ names, s.length ≤ 16) (i : Int) : (nmI names i).length ≤ 16 := by
 unfold nmI; split
 ·decide
 ·exact vab9 h _
theorem vdi9 (l : List Int) {names : List Bs} (h : ∀ s ∈ names, s.length ≤ 16) (k : Nat) : (nmK l names k).length ≤ k * 17 := Nat.le_trans (vV0 16 [32] _ fun s hs => by
 obtain ⟨i, _, rfl⟩ := List.mem_map.1 hs
 exact kcy9 h i) (Nat.mul_le_mul_right _ (by simp; omega))
theorem kdi9 (l : List Int) {names : List Bs} (h : ∀ s ∈ names, s ≠ []) (hi : ∀ i ∈ l, i = -1 ∨ (0 ≤ i ∧ i < names.length)) (k : Nat) (h0 : 0 < k) (hk : k ≤ l.length) : nmK l names k ≠ [] := by
 have h1 : nmI names (l.getD 0 0) ≠ [] := by
  unfold nmI
  rcases hi _ (xl0 0 (show 0 < l.length by omega)) with q|⟨q1, q2⟩
  ·rw [if_pos q]; simp
  ·rw [if_neg (by omega)]
   exact h _ (xl0 [] (by omega))
 cases k with
 | zero => omega
 | succ k =>
  cases l with
  | nil => simp at hk
  | cons a l =>
   rw [nmK, List.take_succ_cons, List.map_cons, Lib.join_cons]
   simp only [List.getD_cons_zero] at h1
   simp [h1]
theorem vcT9 (z : Nat) (l : List Int) (c : Option Nat) (names : List Bs) (cn : Option Nat) (hz : l = [] ∨ z = 1) (hl : l.length ≤ 1000) (hn : names.length ≤ 1000000) (hi : ∀ i ∈ l, i = -1 ∨ (0 ≤ i ∧ i < names.length)) (hs : ∀ s ∈ names, s.length ≤ 16) (hs0 : ∀ s ∈ names, s ≠ []) : PC Tryz.prog G0 28 [.sl z (ints l) c, .sl 1 (strs names) cn] (.str (zA0 l names)) := by
 have hL := kh0 l
 have hnl := wb0 names
 have hne := kdi9 l hs0 hi
 refine wc0 0 36 [.tmp 4] Tryz.func28 rfl rfl rfl (by simp) ?_
 intro s ⟨a0, a1, hz⟩
 simp only [Nat.zero_add, Nat.reduceAdd] at a1
 clear hz
 repeat' (first|refine nav ?_|(refine g0_ ?_; refine goD ?_)|(with_reducible refine gG ?_ ?_)|((with_reducible refine And.intro (fun h => ?_) (fun h => ?_)) <;> try (exfalso; omega))|(with_reducible refine andG ?_)|fail|simp (disch := (first|exact discB|fail)) only [push_cast, simprocAttr, a0, a1, hL])
 refine go_loop rfl (fun mz s' H' => ∃ k : Nat, k ≤ l.length ∧ mz = l.length - k ∧ H' = [] ∧ s' 0 = .sl z (ints l) c ∧ s' 1 = .sl 1 (strs names) cn ∧ s' 5 = .str (nmK l names k) ∧ s' 6 = .int .i64 k) (m := l.length) (by first|exact vb0|fail) (Weak.refl _ _) ⟨0, by omega, by omega, rfl, ?_⟩ ?_
 ·rw [qbr9]
  simp (disch := (first|exact discB|fail)) only [push_cast, simprocAttr, a0, a1, hL]
 ·rintro mz s' H' ⟨k, hk, rfl, rfl, b0, b1, b5, b6⟩
  have hb := vdi9 l hs k
  rcases Nat.lt_or_ge k l.length with hlt|hge
  ·obtain rfl := hz.resolve_left (by intro h; rw [h] at hlt; simp at hlt)
   have e1 := vE0 l k hlt
   have hiv := hi _ (xl0 0 hlt)
   have hx := kcy9 hs (l.getD k 0)
   have key : nmK l names (k + 1) = (if k = 0 then [] else nmK l names k ++ [32]) ++ nmI names (l.getD k 0) := by
    by_cases h0 : k = 0
    ·subst h0; rw [if_pos rfl, wcT9 l names hlt]; rfl
    ·rw [if_neg h0, kcv9 l names k (by omega) hlt]
   have h00 : k = 0 → nmK l names k = [] := fun h => by rw [h, qbr9]
   generalize l.getD k 0 = i at *
   generalize nmK l names k = T at *
   by_cases h1 : i = -1
   ·subst h1
    rw [nmI, if_pos rfl] at key
    by_cases h0 : k = 0
    ·subst h0
     rw [if_pos rfl] at key
     rw [h00 rfl] at b5
     repeat' (first|refine nav ?_|(refine g0_ ?_; refine goD ?_)|(with_reducible refine gG ?_ ?_)|((with_reducible refine And.intro (fun h => ?_) (fun h => ?_)) <;> try (exfalso; omega))|(with_reducible refine andG ?_)|fail|simp (disch := (first|exact discB|fail)) only [push_cast, simprocAttr, b0, b1, b5, b6, e1, hL])
     refine xa0 (l.length - (0 + 1)) (by omega) (by first|exact vb0|fail) ⟨0 + 1, by omega, rfl, rfl, ?_⟩
     simp (disch := (first|exact discB|fail)) only [push_cast, simprocAttr, b0, b1, b5, b6, e1, hL]
     rw [key]; rfl
    ·rw [if_neg h0] at key
     have h0' : (0 : Int) < k := by omega
     repeat' (first|refine nav ?_|(refine g0_ ?_; refine goD ?_)|(with_reducible refine gG ?_ ?_)|((with_reducible refine And.intro (fun h => ?_) (fun h => ?_)) <;> try (exfalso; omega))|(with_reducible refine andG ?_)|fail|simp (disch := (first|exact discB|fail)) only [push_cast, simprocAttr, b0, b1, b5, b6, e1, hL, h0'])
     refine xa0 (l.length - (k + 1)) (by omega) (by first|exact vb0|fail) ⟨k + 1, by omega, rfl, rfl, ?_⟩
     simp (disch := (first|exact discB|fail)) only [push_cast, simprocAttr, b0, b1, b5, b6, e1, hL, h0']
     rw [key]
   ·obtain ⟨q1, q2⟩ := hiv.resolve_left h1
    rw [nmI, if_neg h1] at key hx
    obtain ⟨n, rfl⟩ : ∃ n : Nat, i = n := ⟨i.toNat, by omega⟩
    rw [Int.toNat_natCast] at key hx
    have e2 := zh0 names n (by omega)
    have q3 : ¬ (n : Int) < 0 := by omega
    have q4 : n < names.length := by omega
    generalize names.getD n [] = y at *
    by_cases h0 : k = 0
    ·subst h0
     rw [if_pos rfl] at key
     rw [h00 rfl] at b5
     repeat' (first|refine nav ?_|(refine g0_ ?_; refine goD ?_)|(with_reducible refine gG ?_ ?_)|((with_reducible refine And.intro (fun h => ?_) (fun h => ?_)) <;> try (exfalso; omega))|(with_reducible refine andG ?_)|fail|simp (disch := (first|exact discB|fail)) only [push_cast, simprocAttr, b0, b1, b5, b6, e1, e2, hL, hnl, q3, q4])
     refine xa0 (l.length - (0 + 1)) (by omega) (by first|exact vb0|fail) ⟨0 + 1, by omega, rfl, rfl, ?_⟩
     simp (disch := (first|exact discB|fail)) only [push_cast, simprocAttr, b0, b1, b5, b6, e1, e2, hL, hnl, q3, q4]
     rw [key]; rfl
    ·rw [if_neg h0] at key
     have h0' : (0 : Int) < k := by omega
     repeat' (first|refine nav ?_|(refine g0_ ?_; refine goD ?_)|(with_reducible refine gG ?_ ?_)|((with_reducible refine And.intro (fun h => ?_) (fun h => ?_)) <;> try (exfalso; omega))|(with_reducible refine andG ?_)|fail|simp (disch := (first|exact discB|fail)) only [push_cast, simprocAttr, b0, b1, b5, b6, e1, e2, hL, hnl, q3, q4, h0'])
     refine xa0 (l.length - (k + 1)) (by omega) (by first|exact vb0|fail) ⟨k + 1, by omega, rfl, rfl, ?_⟩
     simp (disch := (first|exact discB|fail)) only [push_cast, simprocAttr, b0, b1, b5, b6, e1, e2, hL, hnl, q3, q4, h0']
     rw [key]
  ·obtain rfl : k = l.length := by omega
   unfold zA0
   by_cases hnil : l = []
   ·subst hnil
    rw [if_pos rfl]
    rw [show nmK [] names ([] : List Int).length = [] by simp [nmK, Lib.join_nil]] at b5
    repeat' (first|refine nav ?_|(refine g0_ ?_; refine goD ?_)|(with_reducible refine gG ?_ ?_)|((with_reducible refine And.intro (fun h => ?_) (fun h => ?_)) <;> try (exfalso; omega))|(with_reducible refine andG ?_)|fail|simp (disch := (first|exact discB|fail)) only [push_cast, simprocAttr, b0, b1, b5, b6, hL])
   ·rw [if_neg hnil]
    have h2 := hne l.length (List.length_pos_iff.2 hnil) (Nat.le_refl _)
    have hd9 := decide_eq_false h2
    rw [show Lib.join (l.map (nmI names)) [32] = nmK l names l.length by rw [nmK, List.take_length]]
    generalize nmK l names l.length = T at *
    repeat' (first|refine nav ?_|(refine g0_ ?_; refine goD ?_)|(with_reducible refine gG ?_ ?_)|((with_reducible refine And.intro (fun h => ?_) (fun h => ?_)) <;> try (exfalso; omega))|(with_reducible refine andG ?_)|fail|simp (disch := (first|exact discB|fail)) only [push_cast, simprocAttr, b0, b1, b5, b6, hL, h2, hd9])
end Go.Proofs
namespace Go.Proofs
open Go Go.V
set_option linter.unusedVariables false
set_option linter.unusedSimpArgs false
set_option maxHeartbeats 0
set_option maxRecDepth 100000
theorem idxI_neg {l : List Bs} {s : Bs} : idxI l s < 0 ↔ ¬ s ∈ l := by
 have e : decide (0 ≤ idxI l s) = l.contains s := by
  rw [idxI, vU0, Bool.eq_iff_iff, List.any_eq_true, List.contains_iff_mem]
  constructor
  ·rintro ⟨x, hx, h⟩; rw [decide_eq_true_eq] at h; rw [← h]; exact hx
  ·intro h; exact ⟨s, h, by simp⟩
 by_cases hm : s ∈ l
 ·have : l.contains s = true := List.contains_iff_mem.2 hm
  rw [this, decide_eq_true_eq] at e
  constructor
  ·intro h; omega
  ·intro h; exact absurd hm h
 ·have : l.contains s = false := by rw [Bool.eq_false_iff]; intro h; exact hm (List.contains_iff_mem.1 h)
  rw [this, decide_eq_false_iff_not] at e
  exact ⟨fun _ => hm, fun _ => by omega⟩
theorem qcw9 {l : List Bs} {s : Bs} (h : s ∈ l) : idxI l s = (l.idxOf s : Nat) := by
 have hlt : l.idxOf s < l.length := List.idxOf_lt_length_iff.2 h
 refine vt0 _ [] l _ (fun j hj => ?_) hlt ?_
 ·rw [decide_eq_false_iff_not, List.getD_eq_getElem?_getD, List.getElem?_eq_getElem (by omega), Option.getD_some]
  exact fun e => by have := List.not_of_lt_findIdx hj; simp [e] at this
 ·rw [decide_eq_true_eq, List.getD_eq_getElem?_getD, List.getElem?_eq_getElem hlt, Option.getD_some]
  exact List.getElem_idxOf hlt
def qbh9 (ins l : List Bs) : List Int := l.map (idxI ins)
def eW (ins l : List Bs) : Int := if (l.any fun n => !decide (n ∈ ins)) = true then 7 else 0
def qae9 (r : List Int × Int) : AV := .tup [if r.1 = [] then .sl 0 [] (some 0) else .sl 1 (ints r.1) none, .int .i64 r.2]
theorem qdj9 (x : GS) (hx : x.Ok) (hv : x.V) (s0 : Bs) (hs : s0.length ≤ 1000) : PC Tryz.prog G0 29 [.agg x.A, .str s0] (qae9 (zw0 x.ins s0)) := by
 have hid := fun p => wV0 p x
 obtain ⟨l1, l2, l3, l4, l5, l6⟩ := hv.cnts
 have hz1 : x.zi = 1 := hx.i.resolve_left (by intro e; rw [e] at l4; simp at l4)
 have hL := wb0 x.ins
 have hRI := fun t => zbB9 1 x.ins x.ci t (.inr rfl) (by omega)
 have hRN := fun (t : Bs) (h : t.length ≤ 60000) => qbX9 t h
 have hi2 : ∀ p, idsE p (strs x.ins) = true := fun p => wa0 p _
 unfold zw0
 rw [if_neg (by omega)]
 unfold GS.A at *
 rw [hz1]
 by_cases hda : s0 = [45]
 ·subst hda
  rw [if_pos rfl, show qae9 ([], 0) = .tup [.sl 0 [] (some 0), .int .i64 0] from rfl]
  refine wc0 0 60 [.tmp 4, .tmp 5] Tryz.func29 rfl rfl rfl (by simp) ?_
  intro s ⟨a0, a1, hz⟩
  simp only [Nat.zero_add, Nat.reduceAdd] at a1
  clear hz
  repeat' (first|refine nav ?_|(refine g0_ ?_; refine goD ?_)|(with_reducible refine gG ?_ ?_)|((with_reducible refine And.intro (fun h => ?_) (fun h => ?_)) <;> try (exfalso; omega))|(with_reducible refine andG ?_)|fail|simp (disch := (first|exact discB|fail)) only [push_cast, simprocAttr, a0, a1])
 ·rw [if_neg hda]
  have hd9 : decide (s0 = [45]) = false := decide_eq_false hda
  refine wc0 1 60 [.tmp 4, .tmp 5] Tryz.func29 rfl rfl rfl (by simp) ?_
  intro s ⟨a0, a1, hz⟩
  simp only [Nat.zero_add, Nat.reduceAdd] at a1
  clear hz
  repeat' (first|refine nav ?_|(refine g0_ ?_; refine goD ?_)|(with_reducible refine gG ?_ ?_)|((with_reducible refine And.intro (fun h => ?_) (fun h => ?_)) <;> try (exfalso; omega))|(with_reducible refine andG ?_)|fail|simp (disch := (first|exact discB|fail)) only [push_cast, simprocAttr, a0, a1, hda, hd9])
  refine kx0 (by first|exact vb0|fail) (qB0 (t := 6) (z := 0) (sz := 1) (ty := 3) rfl) ?_
  refine go_loop rfl (fun mz s' H' => ∃ (i from_ : Nat) (dn : List Bs), i ≤ s0.length + 1 ∧ from_ ≤ i ∧ dn.length ≤ from_ ∧ (∀ n ∈ dn, chkT 1 n = 0) ∧ ((i ≤ s0.length ∧ splitC 32 s0 = dn ++ splitC 32 (s0.drop from_) ∧ ¬ (32 : UInt8) ∈ (s0.take i).drop from_) ∨ (i = s0.length + 1 ∧ splitC 32 s0 = dn)) ∧ mz = s0.length + 1 - i ∧ H' = [.row 7 27 [[.str x.nm, .int .i64 x.i, .int .i64 x.o, .sl x.zr (qf0 x.rows) x.cr, .sl 1 (strs x.ins) x.ci, .sl x.zo (strs x.outs) x.co, .sl x.zs (strs x.sts) x.cs]], .row 1 3 (ints (qbh9 x.ins dn))] ∧ s' 1 = .str s0 ∧ s' 2 = .ptr 0 0 0 1 ∧ s' 6 = .own 1 dn.length dn.length none ∧ s' 7 = .int .i64 (eW x.ins dn) ∧ s' 8 = .int .i64 from_ ∧ s' 9 = .int .i64 i) (m := s0.length + 1) (by first|exact vb0|fail) (Weak.refl _ _) ⟨0, 0, [], by omega, by omega, by simp, by simp, .inl ⟨by omega, by simp, by simp⟩, rfl, rfl, ?_⟩ ?_
  ·simp (disch := (first|exact discB|fail)) only [push_cast, simprocAttr, a0, a1, hda, hd9]
   all_goals rfl
  ·rintro mz s' H' ⟨i, from_, dn, hi, hf, hdl, hdn, hcase, rfl, rfl, b1, b2, b6, b7, b8, b9⟩
   have hdn2 : (ints (qbh9 x.ins dn)).length = dn.length := by rw [kh0, qbh9, List.length_map]
   have h01 : eW x.ins dn = 0 ∨ eW x.ins dn = 7 := by unfold eW; split; exact .inr rfl; exact .inl rfl
   rcases hcase with ⟨hil, hsp, hno⟩|⟨rfl, hsp⟩
   ·by_cases hc : i < s0.length ∧ s0.getD i 0 ≠ 32
    ·obtain ⟨hlt, hne⟩ := hc
     have eb := getD_some hlt
     have hne2 : ¬ ((s0.getD i 0).toNat : Int) = 32 := fun h => hne ((kbU9 _ 32 (by decide)).1 h)
     have hno2 : ¬ (32 : UInt8) ∈ (s0.take (i + 1)).drop from_ := fun h => by
      rw [List.take_succ_eq_append_getElem hlt, List.drop_append_of_le_length (by simp; omega), List.mem_append] at h
      rcases h with h|h
      ·exact hno h
      ·rw [List.mem_singleton] at h
       apply hne
       rw [List.getD_eq_getElem?_getD, List.getElem?_eq_getElem hlt, Option.getD_some]; exact h.symm
     have hlti : (i : Int) < s0.length := by omega
     repeat' (first|refine nav ?_|(refine g0_ ?_; refine goD ?_)|(with_reducible refine gG ?_ ?_)|((with_reducible refine And.intro (fun h => ?_) (fun h => ?_)) <;> try (exfalso; omega))|(with_reducible refine andG ?_)|fail|simp (disch := (first|exact discB|fail)) only [push_cast, simprocAttr, b1, b2, b6, b7, b8, b9, hne2, hlti])
     refine xa0 (s0.length + 1 - (i + 1)) (by omega) (by first|exact vb0|fail) ⟨i + 1, from_, dn, by omega, by omega, hdl, hdn, .inl ⟨by omega, hsp, hno2⟩, rfl, rfl, ?_⟩
     simp (disch := (first|exact discB|fail)) only [push_cast, simprocAttr, b1, b2, b6, b7, b8, b9, hne2, hlti]
    ·have hfl : from_ ≤ s0.length := by omega
     have hst : splitC 32 (s0.drop from_) = (s0.take i).drop from_ :: (if i < s0.length then splitC 32 (s0.drop (i + 1)) else []) := by
      by_cases hlt : i < s0.length
      ·rw [if_pos hlt]
       have h32 : s0.getD i 0 = 32 := Classical.not_not.1 fun h => hc ⟨hlt, h⟩
       have e1 : s0.drop from_ = (s0.take i).drop from_ ++ 32 :: s0.drop (i + 1) := by
        rw [← h32, ← wU0 s0 0 i hlt]
        have : s0 = s0.take i ++ s0.drop i := (List.take_append_drop i s0).symm
        conv => lhs; rw [this]
        rw [List.drop_append_of_le_length (by simp; omega)]
       rw [e1, vaT9 _ hno]
      ·obtain rfl : i = s0.length := by omega
       rw [if_neg hlt]
       rw [List.take_length] at hno ⊢
       exact kap9 hno
     have hnl : ((s0.take i).drop from_).length ≤ 60000 := by simp; omega
     have hN := hRN _ hnl
     have hI := hRI ((s0.take i).drop from_)
     have hgu : (i < s0.length → ((s0.getD i 0).toNat : Int) = 32) := fun hlt => (kbU9 _ 32 (by decide)).2 (Classical.not_not.1 fun h => hc ⟨hlt, h⟩)
     generalize hnn : (s0.take i).drop from_ = nn at *
     have hall : splitC 32 s0 = (dn ++ [nn]) ++ (if i < s0.length then splitC 32 (s0.drop (i + 1)) else []) := by rw [hsp, hst]; simp
     have hbad : ¬ chkT 1 nn = 0 → ((splitC 32 s0).any fun n => !decide (chkT 1 n = 0)) = true := fun h => List.any_eq_true.2 ⟨nn, by rw [hall]; simp, by rw [decide_eq_false h]; rfl⟩
     have hc01 : chkT 1 nn = 0 ∨ chkT 1 nn = 1 := by unfold chkT; split; exact .inl rfl; exact .inr rfl
     have hca : (i < s0.length ∧ s0[i]? = some (s0.getD i 0) ∧ ((s0.getD i 0).toNat : Int) = 32) ∨ i = s0.length := by
      by_cases hlt : i < s0.length
      ·exact .inl ⟨hlt, getD_some hlt, hgu hlt⟩
      ·exact .inr (by omega)
     have hnew : (i + 1 ≤ s0.length ∧ splitC 32 s0 = (dn ++ [nn]) ++ splitC 32 (s0.drop (i + 1)) ∧ ¬ (32 : UInt8) ∈ (s0.take (i + 1)).drop (i + 1)) ∨ (i + 1 = s0.length + 1 ∧ splitC 32 s0 = dn ++ [nn]) := by
      by_cases hlt : i < s0.length
      ·rw [if_pos hlt] at hall
       exact .inl ⟨hlt, hall, by rw [List.drop_eq_nil_of_le (by simp; omega)]; simp⟩
      ·rw [if_neg hlt, List.append_nil] at hall
       exact .inr ⟨by omega, hall⟩
     have hints : ints (qbh9 x.ins (dn ++ [nn])) = ints (qbh9 x.ins dn) ++ [[.int .i64 (idxI x.ins nn)]] := by simp [ints, qbh9]
     have hew : eW x.ins (dn ++ [nn]) = if idxI x.ins nn < 0 then 7 else eW x.ins dn := by
      unfold eW
      rw [List.any_append]
      by_cases hm : nn ∈ x.ins
      ·rw [if_neg (fun h => idxI_neg.1 h hm)]; simp [hm]
      ·rw [if_pos (idxI_neg.2 hm)]; simp [hm]
     have hdl2 : (dn ++ [nn]).length = dn.length + 1 := by simp
     clear hst hall
     rcases hc01 with h0|h0
     ·rw [h0, show (1 : Int) - 0 = 1 by decide] at hN
      have hdn3 : ∀ n ∈ dn ++ [nn], chkT 1 n = 0 := fun n hn => by
       rcases List.mem_append.1 hn with q|q
       ·exact hdn n q
       ·rw [List.mem_singleton] at q; rw [q]; exact h0
      generalize dn ++ [nn] = dn' at *
      generalize idxI x.ins nn = v at *
      rcases hca with ⟨hlt, eb, h32⟩|rfl
      ·have hlti : (i : Int) < s0.length := by omega
       repeat' (first|refine nav ?_|(refine g0_ ?_; refine goD ?_)|(with_reducible refine gG ?_ ?_)|((with_reducible refine And.intro (fun h => ?_) (fun h => ?_)) <;> try (exfalso; omega))|(with_reducible refine andG ?_)|(first|(refine ⟨_, _, qa0 (hN) (by (simp [idsL, idsE, AV.ids, hi2])) _, ?_⟩)|(refine ⟨_, qa0 (hN) (by (simp [idsL, idsE, AV.ids, hi2])) _, ?_⟩)|(refine ⟨_, fun _ => qa0 (hN) (by (simp [idsL, idsE, AV.ids, hi2])) _, ?_⟩)|(refine ⟨_, _, qa0 (hI) (by (simp [idsL, idsE, AV.ids, hi2])) _, ?_⟩)|(refine ⟨_, qa0 (hI) (by (simp [idsL, idsE, AV.ids, hi2])) _, ?_⟩)|(refine ⟨_, fun _ => qa0 (hI) (by (simp [idsL, idsE, AV.ids, hi2])) _, ?_⟩))|simp (disch := (first|exact discB|fail)) only [push_cast, simprocAttr, b1, b2, b6, b7, b8, b9, h32, hlti, hnn, hL, hdn2])
       ·rw [if_pos (by omega)] at hew
        rw [← hints]
        refine xa0 (s0.length + 1 - (i + 1)) (by omega) (by first|exact vb0|fail) ⟨i + 1, i + 1, dn', by omega, by omega, by omega, hdn3, hnew, rfl, rfl, ?_⟩
        rw [hew, hdl2]
        simp (disch := (first|exact discB|fail)) only [push_cast, simprocAttr, b1, b2, b6, b7, b8, b9, h32, hlti, hnn, hL, hdn2]
       ·rw [if_neg (by omega)] at hew
        rw [← hints]
        refine xa0 (s0.length + 1 - (i + 1)) (by omega) (by first|exact vb0|fail) ⟨i + 1, i + 1, dn', by omega, by omega, by omega, hdn3, hnew, rfl, rfl, ?_⟩
        rw [hew, hdl2]
        simp (disch := (first|exact discB|fail)) only [push_cast, simprocAttr, b1, b2, b6, b7, b8, b9, h32, hlti, hnn, hL, hdn2]
      ·have hlti : ¬ (s0.length : Int) < s0.length := by omega
       rw [List.take_length] at hnn
       repeat' (first|refine nav ?_|(refine g0_ ?_; refine goD ?_)|(with_reducible refine gG ?_ ?_)|((with_reducible refine And.intro (fun h => ?_) (fun h => ?_)) <;> try (exfalso; omega))|(with_reducible refine andG ?_)|(first|(refine ⟨_, _, qa0 (hN) (by (simp [idsL, idsE, AV.ids, hi2])) _, ?_⟩)|(refine ⟨_, qa0 (hN) (by (simp [idsL, idsE, AV.ids, hi2])) _, ?_⟩)|(refine ⟨_, fun _ => qa0 (hN) (by (simp [idsL, idsE, AV.ids, hi2])) _, ?_⟩)|(refine ⟨_, _, qa0 (hI) (by (simp [idsL, idsE, AV.ids, hi2])) _, ?_⟩)|(refine ⟨_, qa0 (hI) (by (simp [idsL, idsE, AV.ids, hi2])) _, ?_⟩)|(refine ⟨_, fun _ => qa0 (hI) (by (simp [idsL, idsE, AV.ids, hi2])) _, ?_⟩))|simp (disch := (first|exact discB|fail)) only [push_cast, simprocAttr, b1, b2, b6, b7, b8, b9, hlti, hnn, hL, hdn2])
       ·rw [if_pos (by omega)] at hew
        rw [← hints]
        refine xa0 (s0.length + 1 - (s0.length + 1)) (by omega) (by first|exact vb0|fail) ⟨s0.length + 1, s0.length + 1, dn', by omega, by omega, by omega, hdn3, hnew, rfl, rfl, ?_⟩
        rw [hew, hdl2]
        simp (disch := (first|exact discB|fail)) only [push_cast, simprocAttr, b1, b2, b6, b7, b8, b9, hlti, hnn, hL, hdn2]
       ·rw [if_neg (by omega)] at hew
        rw [← hints]
        refine xa0 (s0.length + 1 - (s0.length + 1)) (by omega) (by first|exact vb0|fail) ⟨s0.length + 1, s0.length + 1, dn', by omega, by omega, by omega, hdn3, hnew, rfl, rfl, ?_⟩
        rw [hew, hdl2]
        simp (disch := (first|exact discB|fail)) only [push_cast, simprocAttr, b1, b2, b6, b7, b8, b9, hlti, hnn, hL, hdn2]
     ·rw [h0, show (1 : Int) - 1 = 0 by decide] at hN
      rw [if_pos (hbad (by omega)), show qae9 ([], 4) = .tup [.sl 0 [] (some 0), .int .i64 4] from rfl]
      rcases hca with ⟨hlt, eb, h32⟩|rfl
      ·have hlti : (i : Int) < s0.length := by omega
       repeat' (first|refine nav ?_|(refine g0_ ?_; refine goD ?_)|(with_reducible refine gG ?_ ?_)|((with_reducible refine And.intro (fun h => ?_) (fun h => ?_)) <;> try (exfalso; omega))|(with_reducible refine andG ?_)|(first|(refine ⟨_, _, qa0 (hN) (by (simp [idsL, idsE, AV.ids, hi2])) _, ?_⟩)|(refine ⟨_, qa0 (hN) (by (simp [idsL, idsE, AV.ids, hi2])) _, ?_⟩)|(refine ⟨_, fun _ => qa0 (hN) (by (simp [idsL, idsE, AV.ids, hi2])) _, ?_⟩)|(refine ⟨_, _, qa0 (hI) (by (simp [idsL, idsE, AV.ids, hi2])) _, ?_⟩)|(refine ⟨_, qa0 (hI) (by (simp [idsL, idsE, AV.ids, hi2])) _, ?_⟩)|(refine ⟨_, fun _ => qa0 (hI) (by (simp [idsL, idsE, AV.ids, hi2])) _, ?_⟩))|simp (disch := (first|exact discB|fail)) only [push_cast, simprocAttr, b1, b2, b6, b7, b8, b9, h32, hlti, hnn, hL, hdn2])
      ·have hlti : ¬ (s0.length : Int) < s0.length := by omega
       rw [List.take_length] at hnn
       repeat' (first|refine nav ?_|(refine g0_ ?_; refine goD ?_)|(with_reducible refine gG ?_ ?_)|((with_reducible refine And.intro (fun h => ?_) (fun h => ?_)) <;> try (exfalso; omega))|(with_reducible refine andG ?_)|(first|(refine ⟨_, _, qa0 (hN) (by (simp [idsL, idsE, AV.ids, hi2])) _, ?_⟩)|(refine ⟨_, qa0 (hN) (by (simp [idsL, idsE, AV.ids, hi2])) _, ?_⟩)|(refine ⟨_, fun _ => qa0 (hN) (by (simp [idsL, idsE, AV.ids, hi2])) _, ?_⟩)|(refine ⟨_, _, qa0 (hI) (by (simp [idsL, idsE, AV.ids, hi2])) _, ?_⟩)|(refine ⟨_, qa0 (hI) (by (simp [idsL, idsE, AV.ids, hi2])) _, ?_⟩)|(refine ⟨_, fun _ => qa0 (hI) (by (simp [idsL, idsE, AV.ids, hi2])) _, ?_⟩))|simp (disch := (first|exact discB|fail)) only [push_cast, simprocAttr, b1, b2, b6, b7, b8, b9, hlti, hnn, hL, hdn2])
   ·have hlt : ¬ ((s0.length + 1 : Nat) : Int) ≤ s0.length := by omega
    have hgood : ((splitC 32 s0).any fun n => !decide (chkT 1 n = 0)) = false := by
     rw [List.any_eq_false]
     intro n hn
     rw [hsp] at hn
     rw [decide_eq_true (hdn n hn)]; decide
    have hlen : ((s0.length : Int) + 1) = ((s0.length + 1 : Nat) : Int) := by omega
    have hlt2 : ¬ ((s0.length : Int) + 1 ≤ s0.length) := by omega
    rw [hgood, if_neg (by simp), hsp]
    have hdne : dn ≠ [] := by rw [← hsp]; exact vz0 32 s0
    have hdpos := List.length_pos_iff.2 hdne
    by_cases hany : (dn.any fun n => !decide (n ∈ x.ins)) = true
    ·rw [if_pos hany, show qae9 ([], 7) = .tup [.sl 0 [] (some 0), .int .i64 7] from rfl]
     rw [eW, if_pos hany] at b7
     clear h01
     repeat' (first|refine nav ?_|(refine g0_ ?_; refine goD ?_)|(with_reducible refine gG ?_ ?_)|((with_reducible refine And.intro (fun h => ?_) (fun h => ?_)) <;> try (exfalso; omega))|(with_reducible refine andG ?_)|fail|simp (disch := (first|exact discB|fail)) only [push_cast, simprocAttr, b1, b2, b6, b7, b8, b9, hlt2, hdn2])
    ·rw [if_neg hany]
     rw [eW, if_neg hany] at b7
     have hall : ∀ n ∈ dn, n ∈ x.ins := fun n hn => by
      have := List.any_eq_false.1 (Bool.eq_false_iff.2 hany) n hn
      simpa using this
     have he : qbh9 x.ins dn = vI0 x.ins dn := List.map_congr_left fun n hn => qcw9 (hall n hn)
     rw [he] at hdn2 ⊢
     clear h01
     by_cases h256 : 256 < dn.length
     ·rw [if_pos h256, show qae9 ([], 3) = .tup [.sl 0 [] (some 0), .int .i64 3] from rfl]
      repeat' (first|refine nav ?_|(refine g0_ ?_; refine goD ?_)|(with_reducible refine gG ?_ ?_)|((with_reducible refine And.intro (fun h => ?_) (fun h => ?_)) <;> try (exfalso; omega))|(with_reducible refine andG ?_)|fail|simp (disch := (first|exact discB|fail)) only [push_cast, simprocAttr, b1, b2, b6, b7, b8, b9, hlt2, hdn2])
     ·rw [if_neg h256]
      unfold qae9
      simp only
      rw [if_neg (by intro e; have h2 := congrArg List.length e; rw [kar9] at h2; simp only [List.length_nil] at h2; omega)]
      repeat' (first|refine nav ?_|(refine g0_ ?_; refine goD ?_)|(with_reducible refine gG ?_ ?_)|((with_reducible refine And.intro (fun h => ?_) (fun h => ?_)) <;> try (exfalso; omega))|(with_reducible refine andG ?_)|fail|simp (disch := (first|exact discB|fail)) only [push_cast, simprocAttr, b1, b2, b6, b7, b8, b9, hlt2, hdn2])
end Go.Proofs
