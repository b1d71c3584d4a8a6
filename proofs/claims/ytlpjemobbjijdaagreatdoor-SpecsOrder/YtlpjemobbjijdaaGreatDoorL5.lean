import Derived.Test.YtlpjemobbjijdaaGreatDoorL3
namespace Go.Proofs
open Go Go.V
set_option linter.unusedVariables false
set_option linter.unusedSimpArgs false
set_option maxHeartbeats 0
end Go.Proofs
namespace Go.Proofs
open Go Go.V
set_option linter.unusedVariables false
set_option linter.unusedSimpArgs false
set_option maxHeartbeats 0
set_option maxRecDepth 100000
theorem qbl9 : ∀ (w : Bs) (l c B : Int), 0 ≤ l → l ≤ B → 0 ≤ c → c ≤ B → 1 ≤ B → 0 ≤ (posT l c w).1 ∧ (posT l c w).1 ≤ B + w.length ∧ 0 ≤ (posT l c w).2 ∧ (posT l c w).2 ≤ B + w.length
 | [], l, c, B, h1, h2, h3, h4, h5 => by simp [posT]; omega
 | b :: r, l, c, B, h1, h2, h3, h4, h5 => by
  rw [posT]
  simp only [List.length_cons, Int.natCast_add, Int.natCast_one]
  split
  ·have := qbl9 r (l + 1) 1 (B + 1) (by omega) (by omega) (by omega) (by omega) (by omega); omega
  ·have := qbl9 r l (c + 1) (B + 1) (by omega) (by omega) (by omega) (by omega) (by omega); omega
theorem wcL9 (t : Bs) (l c : Int) (K : List Blk) (ht : t.length ≤ 1000000) (hl : 0 ≤ l ∧ l ≤ 1000000) (hc : 0 ≤ c ∧ c ≤ 1000000) :
  ka0 Tryz.prog G0 97 [.str t, .ptr 0 0 0 1, .ptr 1 0 0 1] (.row 1 3 [[.int .i64 l]] :: .row 1 3 [[.int .i64 c]] :: K) (.tup []) (.row 1 3 [[.int .i64 (posT l c t).1]] :: .row 1 3 [[.int .i64 (posT l c t).2]] :: K) := by
 have h1 := fun H => qei9 H t
 have h2 := fun H => zds9 H t ht
 have hs := xax9 t 10
 have p1 := qbk9 t l c
 have p2 := xcc9 t l c
 have hcl : t.count 10 ≤ t.length := List.count_le_length
 have e10 : (((10 : UInt8).toNat : Nat) : Int) = 10 := rfl
 rw [e10] at hs
 generalize Lib.lastIndexByte ⟨t.toArray⟩ 10 = ix at *
 rcases hs with ⟨rfl, hn⟩|⟨i, hi, rfl, h3, h4⟩
 ·have hz : t.count 10 = 0 := List.count_eq_zero.mpr fun q => by
   obtain ⟨j, hj, e⟩ := List.getElem_of_mem q
   exact hn j (by rw [List.getElem?_eq_getElem hj, e])
  rw [p1 hn]
  rw [hz] at h1
  refine vm0 21 [] Tryz.func97 rfl rfl rfl (by simp) ?_
  intro s ⟨a0, a1, a2, hz⟩
  simp only [Nat.zero_add, Nat.reduceAdd] at a1 a2
  clear hz
  repeat' (first|refine nv ?_|(with_reducible first|refine gG ?_ ?_|(refine And.intro (fun h => ?_) (fun h => ?_)) <;> try omega|refine andG ?_)|refine cl (h1 _) ?_|refine cl (h2 _) ?_|simp (disch := try exact discB) only [push_cast, simprocAttr, a0, a1, a2])
  rw [Int.add_zero]
 ·rw [p2 i h3 h4]
  have e1 : ((i : Int) + 1).toNat = i + 1 := by omega
  have e2 : (t.drop (i + 1)).length ≤ 1000000 := by rw [List.length_drop]; omega
  generalize hu : t.drop (i + 1) = u at *
  refine vm0 21 [] Tryz.func97 rfl rfl rfl (by simp) ?_
  intro s ⟨a0, a1, a2, hz⟩
  simp only [Nat.zero_add, Nat.reduceAdd] at a1 a2
  clear hz
  repeat' (first|refine nv ?_|(with_reducible first|refine gG ?_ ?_|(refine And.intro (fun h => ?_) (fun h => ?_)) <;> try omega|refine andG ?_)|refine cl (h1 _) ?_|refine cl (h2 _) ?_|simp (disch := try exact discB) only [push_cast, simprocAttr, a0, a1, a2, e1, hu])
  all_goals first|omega|rfl
def ofR : LexR → List Tk × Int × Int × Int
 | .ok l => (l, 0, 0, 0)
 | .err l c e => ([], l, c, e)
def ofS (s0 : Bs) : List Tk × Int × Int × Int := if 65536 < s0.length then ([], 0, 0, 3) else ofR (lexR s0 1 1)
def ofA (s0 : Bs) : AV := .tup [.sl 4 (tks (ofS s0).1) (some (ofS s0).1.length), .int .i64 (ofS s0).2.1, .int .i64 (ofS s0).2.2.1, .int .i64 (ofS s0).2.2.2]
theorem xbJ9 (b n h : Nat) (t : TypeId) (es : List (List AV)) (c : Option Nat) (H : List Blk) (hb : H[b]? = some (.row 4 t es)) (hh : h = es.length) : ka0 Tryz.prog G0 101 [.own b n h c] H (.own b n h (some n)) H := by
 subst hh
 refine vm0 9 [.tmp 2] Tryz.func101 rfl rfl rfl (by simp) ?_
 intro s ⟨a0, hz⟩
 clear hz
 repeat' (first|refine nv ?_|(with_reducible first|refine gG ?_ ?_|(refine And.intro (fun h => ?_) (fun h => ?_)) <;> try omega|refine andG ?_)|refine cl (h1 _) ?_|refine cl (h2 _) ?_|simp (disch := try exact discB) only [push_cast, simprocAttr, a0, hb])
theorem of9 (s0 : Bs) (hs : s0.length ≤ 1000000) : PC Tryz.prog G0 63 [.str s0] (ofA s0) := by
 unfold ofA
 by_cases hbig : 65536 < s0.length
 ·rw [show ofS s0 = ([], 0, 0, 3) by rw [ofS, if_pos hbig]]
  have hb' : (65536 : Int) < s0.length := by omega
  refine xd0 1 65 [.tmp 2, .cell 3 3, .cell 4 3, .tmp 5] Tryz.func63 rfl rfl rfl (by simp) ?_
  intro s ⟨a0, hz⟩
  clear hz
  repeat' (first|(first|refine nav ?_|(refine g0_ ?_; first|refine dN (p := [0, 0, 1, 0, 1, 1, 1, 1, 1, 0, 0, 0, 1, 1, 1, 1, 1]) [(46, 4)] [(3, some 3)] [] ?_|refine dN (p := [0, 1, 1, 1, 1, 1, 1, 0, 0, 0, 1, 1, 1, 1, 1]) [(49, 4)] [(50, some 50)] [] ?_|refine goD ?_))|(with_reducible first|refine gG ?_ ?_|(refine And.intro (fun h => ?_) (fun h => ?_)) <;> try omega|refine andG ?_)|simp (disch := try exact discB) only [push_cast, simprocAttr, a0, hb', wcZ9])
 ·have hR : ofS s0 = ofR (lexR s0 1 1) := by rw [ofS, if_neg hbig]
  have hb' : ¬ (65536 : Int) < s0.length := by omega
  generalize ofS s0 = R at *
  refine xd0 1 65 [.tmp 2, .cell 3 3, .cell 4 3, .tmp 5] Tryz.func63 rfl rfl rfl (by simp) ?_
  intro s ⟨a0, hz⟩
  clear hz
  repeat' (first|(first|refine nav ?_|(refine g0_ ?_; first|refine dN (p := [0, 0, 1, 0, 1, 1, 1, 1, 1, 0, 0, 0, 1, 1, 1, 1, 1]) [(46, 4)] [(3, some 3)] [] ?_|refine dN (p := [0, 1, 1, 1, 1, 1, 1, 0, 0, 0, 1, 1, 1, 1, 1]) [(49, 4)] [(50, some 50)] [] ?_|refine goD ?_))|(with_reducible first|refine gG ?_ ?_|(refine And.intro (fun h => ?_) (fun h => ?_)) <;> try omega|refine andG ?_)|simp (disch := try exact discB) only [push_cast, simprocAttr, a0, hb'])
  refine zG0 (by first|exact xb0|fail) (zU0 (t := 2) (sz := 4) (ty := 115) rfl) ?_
  refine go_loop rfl (fun mz s' H' => ∃ (a : Nat) (ts : List Tk) (l c : Int), a ≤ s0.length ∧ ts.length ≤ a ∧ (0 ≤ l ∧ l ≤ a + 1) ∧ (0 ≤ c ∧ c ≤ a + 1) ∧ lexR s0 1 1 = (lexR (s0.drop a) l c).app ts ∧ mz = s0.length - a ∧ H' = [.row 1 3 [[.int .i64 l]], .row 1 3 [[.int .i64 c]], .row 4 115 (tks ts)] ∧ s' 0 = .str s0 ∧ s' 2 = .own 2 ts.length ts.length none ∧ s' 3 = .ptr 0 0 0 1 ∧ s' 4 = .ptr 1 0 0 1 ∧ s' 6 = .fn 97 [.ptr 0 0 0 1, .ptr 1 0 0 1] ∧ s' 7 = .int .i64 a) (m := s0.length) (by first|exact xb0|fail) (Weak.refl _ _) ⟨0, [], 1, 1, by omega, by simp, by omega, by omega, ?_, by omega, rfl, ?_⟩ ?_
  ·rw [List.drop_zero, LexR.app_nil]
  ·simp (disch := try exact discB) only [push_cast, simprocAttr, a0, hb']
  ·rintro mz s' H' ⟨a, ts, l, c, ha, hts, hl, hc, ik, rfl, rfl, b0, b2, b3, b4, b6, b7⟩
   have hg := qad9 false (s0.drop a)
   rw [List.length_drop] at hg
   have h1 := zei9 (s0.drop a) (by rw [List.length_drop]; omega)
   have h2 := fun H => wcL9 ((s0.drop a).take (gapS false (s0.drop a))) l c H (by rw [List.length_take, List.length_drop]; omega) (by omega) (by omega)
   have hge := xcY9 (s0.drop a) false l c
   have hbd := qbl9 ((s0.drop a).take (gapS false (s0.drop a))) l c (a + 1) (by omega) (by omega) (by omega) (by omega) (by omega)
   have hgl : ((s0.drop a).take (gapS false (s0.drop a))).length = gapS false (s0.drop a) := by rw [List.length_take, List.length_drop]; omega
   rw [hgl] at hbd
   have hlx : lexX false (s0.drop a) l c = lexR (s0.drop a) l c := rfl
   rw [hlx, List.drop_drop] at hge
   generalize hP : posT l c ((s0.drop a).take (gapS false (s0.drop a))) = P at *
   obtain ⟨l2, c2⟩ := P
   simp only at h2 hge hbd
   generalize gapS false (s0.drop a) = g at *
   have hsl : ((a : Int) + (g : Int)).toNat = a + g := by omega
   have hsub : List.drop a (List.take (a + g) s0) = (s0.drop a).take g := by rw [List.drop_take]; congr 1; omega
   generalize hX : (s0.drop a).take g = X at *
   rcases hge with ⟨hd, hz⟩|⟨b, r, hd, hrem, n2, n1, n3, hz⟩
   ·have hag : a + g = s0.length := by have := congrArg List.length hd; rw [List.length_drop, List.length_nil] at this; omega
    rw [hz] at ik
    have hR2 : R = (ts, 0, 0, 0) := by rw [hR, ik]; simp [LexR.app, ofR]
    have hsub2 : s0.drop a = X := by rw [← hX, List.take_of_length_le (by rw [List.length_drop]; omega)]
    rw [hsub2] at h1
    have et : (tks ts).take ts.length = tks ts := List.take_of_length_le (by rw [kg0]; omega)
    repeat' (first|(first|refine nav ?_|(refine g0_ ?_; first|refine dN (p := [0, 0, 1, 0, 1, 1, 1, 1, 1, 0, 0, 0, 1, 1, 1, 1, 1]) [(46, 4)] [(3, some 3)] [] ?_|refine dN (p := [0, 1, 1, 1, 1, 1, 1, 0, 0, 0, 1, 1, 1, 1, 1]) [(49, 4)] [(50, some 50)] [] ?_|refine goD ?_))|(with_reducible first|refine gG ?_ ?_|(refine And.intro (fun h => ?_) (fun h => ?_)) <;> try omega|refine andG ?_)|refine cp h1 ?_|refine cl (h2 _) ?_|refine cl (xbJ9 2 _ _ 115 (tks ts) none _ rfl (by rw [kg0])) ?_|simp (disch := try exact discB) only [push_cast, simprocAttr, b0, b2, b3, b4, b6, b7, hsl, hsub, hsub2, et, vcd9])
    subst hR2
    first|done|rfl|simp
   ·rw [hz] at ik
    have h3 := zcf9 (s0.drop (a + g)) (by rw [List.length_drop]; omega)
    have hdl := congrArg List.length hd
    rw [List.length_drop, List.length_cons] at hdl
    rw [xe0, if_neg n1, if_neg n2, if_neg n3, ← hd] at ik
    have hby := qK0 (s0.drop (a + g))
    have htl := xaL9 (s0.drop (a + g))
    rw [List.length_drop] at htl
    have hpos := @vW0 b r
    rw [← hd] at hpos
    generalize tokS (s0.drop (a + g)) = T at *
    obtain ⟨k, n, e⟩ := T
    simp only at ik h3 hby hpos htl
    have hfl := zaY9 ((s0.drop (a + g)).take n) l2 c2 hby
    have hnl : ((s0.drop (a + g)).take n).length = n := by rw [List.length_take, List.length_drop]; omega
    by_cases he : e = 0
    ·subst he
     rw [if_neg (by simp), LexR.app_snoc, List.drop_drop] at ik
     have h4 := fun H => wcL9 ((s0.drop (a + g)).take n) l2 c2 H (by omega) (by omega) (by omega)
     rw [hfl, hnl] at h4
     generalize (s0.drop (a + g)).take n = w at *
     repeat' (first|(first|refine nav ?_|(refine g0_ ?_; first|refine dN (p := [0, 0, 1, 0, 1, 1, 1, 1, 1, 0, 0, 0, 1, 1, 1, 1, 1]) [(46, 4)] [(3, some 3)] [] ?_|refine dN (p := [0, 1, 1, 1, 1, 1, 1, 0, 0, 0, 1, 1, 1, 1, 1]) [(49, 4)] [(50, some 50)] [] ?_|refine goD ?_))|(with_reducible first|refine gG ?_ ?_|(refine And.intro (fun h => ?_) (fun h => ?_)) <;> try omega|refine andG ?_)|refine cp h1 ?_|refine cl (h2 _) ?_|refine cp h3 ?_|refine cl (h4 _) ?_|simp (disch := try exact discB) only [push_cast, simprocAttr, b0, b2, b3, b4, b6, b7, hsl, hsub])
     refine wg0 (s0.length - (a + g + n)) 3 (by omega) (by first|exact xb0|fail) (by omega) (by simp) (by simp [Blk.below, idsL, idsE, AV.ids, xat9]) ⟨a + g + n, ts ++ [⟨k, w, l2, c2⟩], l2, c2 + n, by omega, by simp; omega, by omega, by omega, ik, rfl, by rw [← kcA9]; rfl, ?_⟩
     simp (disch := try exact discB) only [push_cast, simprocAttr, b0, b2, b3, b4, b6, b7, zk0, AV.ids, idsL]
     first|done|rw [hnl]
    ·rw [if_pos he] at ik
     have hR2 : R = ([], l2, c2, e) := by rw [hR, ik]; simp [LexR.app, ofR]
     repeat' (first|(first|refine nav ?_|(refine g0_ ?_; first|refine dN (p := [0, 0, 1, 0, 1, 1, 1, 1, 1, 0, 0, 0, 1, 1, 1, 1, 1]) [(46, 4)] [(3, some 3)] [] ?_|refine dN (p := [0, 1, 1, 1, 1, 1, 1, 0, 0, 0, 1, 1, 1, 1, 1]) [(49, 4)] [(50, some 50)] [] ?_|refine goD ?_))|(with_reducible first|refine gG ?_ ?_|(refine And.intro (fun h => ?_) (fun h => ?_)) <;> try omega|refine andG ?_)|refine cp h1 ?_|refine cl (h2 _) ?_|refine cp h3 ?_|simp (disch := try exact discB) only [push_cast, simprocAttr, b0, b2, b3, b4, b6, b7, hsl, hsub, he])
     subst hR2
     simp [tks]
end Go.Proofs
namespace Go.Proofs
open Go Go.V
set_option linter.unusedVariables false
set_option linter.unusedSimpArgs false
set_option maxHeartbeats 0
set_option maxRecDepth 100000
def wen9 (a b : List Tk) : Bool := decide (kts a = kts b)
end Go.Proofs
