import Derived.Test.YtlpjemobbjijdaaGreatDoorS38
namespace Go.Proofs
open Go Go.V
set_option linter.unusedVariables false
set_option linter.unusedSimpArgs false
set_option maxHeartbeats 0
set_option maxRecDepth 100000
def bO (o : Int) (l : List Int) (k : Nat) : Int := if ((l.take k).any (badO o)) = true then 1 else 0
theorem wcO9 (o : Int) (l : List Int) (k : Nat) (h : k < l.length) : bO o l (k + 1) = if badO o (l.getD k 0) = true then 1 else bO o l k := by
 unfold bO
 rw [wbW9 l k h, List.any_append, List.any_cons, List.any_nil, Bool.or_false]
 generalize (l.take k).any (badO o) = a
 generalize badO o (l.getD k 0) = b
 cases a <;> cases b <;> rfl
theorem law8 (x : ND) (z : Nat) (c : Option Nat) (zw : Nat) (w : List Nat) (cw : Option Nat) (l : List Int) (cl : Option Nat) (hx : x.m.Ok) (hn : x.nm < 256) (hz : x.m.es = [] ∨ z = 1) (hzw : w = [] ∨ zw = 1) (hw : ∀ n ∈ w, n < 256) (hwl : w.length ≤ 9223372036854775807) (hll : l.length ≤ 9223372036854775807) : PC Tryz.prog G0 8 [.agg (ndC x z c), .agg [.sl zw (u8s w) cw], .sl 1 (ints l) cl] (.bool true) := by
 have hie : ∀ p, idsL p (ndC x z c) = true := fun p => by simp [ndC, mdC, idsL, AV.ids]
 have hiw : ∀ p, idsE p (u8s w) = true := fun p => kcq9 p w
 have hil : ∀ p, idsE p (ints l) = true := fun p => kj0 p _
 have hL := ke0 l
 by_cases hbig : 300 < l.length
 ·have hb' : (300 : Int) < l.length := by omega
  unfold ndC mdC at *
  simp only [List.cons_append, List.nil_append] at *
  refine qd0 0 137 [.tmp 6] Tryz.func8 rfl rfl rfl (by simp) ?_
  intro s ⟨a0, a1, a2, hz⟩
  simp only [Nat.zero_add, Nat.reduceAdd] at a1 a2
  clear hz
  repeat' (first|refine nav ?_|(refine g0_ ?_; refine goD ?_)|(with_reducible refine gG ?_ ?_)|((with_reducible refine And.intro (fun h => ?_) (fun h => ?_)) <;> try (exfalso; omega))|(with_reducible refine andG ?_)|fail|simp (disch := (first|exact discB|fail)) only [push_cast, simprocAttr, a0, a1, a2, hb', hL])
 have hb' : ¬ (300 : Int) < l.length := by omega
 have hv := x.v
 have hok := x.ok
 obtain ⟨l1, l2, l3, l4, l5, l6⟩ := hv.cnts
 obtain ⟨n1, n2, _, _⟩ := hv.len
 have bI := x.m.bI
 have hGi : x.G.i = (x.m.I : Int) := rfl
 have hci := hv.ci
 have hco := hv.co
 have hm := xg0 hv.m
 have hWm := zcO9 (w := w) (A := x.m.I) (by omega)
 have hWl := kE0 w x.m.I
 have h0 := chkS_zero.2 hv
 have h21 := of21 x z c hx hn hz
 have h27 := vdA9 zw w cw x.m.I hzw (by omega) (by omega) hw hwl
 have h30 : PC Tryz.prog G0 30 [.agg [.int .i64 x.G.i, .int .i64 x.G.o, .sl x.G.zr (qe0 x.G.rows) x.G.cr], .int .i64 0, .sl 1 (ints (ofW w x.m.I)) none] (.sl 1 (ints (runM x.G.rows 0 (ofW w x.m.I))) none) := kdA9 x.G.i x.G.o x.G.rows x.G.zr x.G.cr (ofW w x.m.I) 1 none hv.m (.inr rfl) (.inr rfl) (fun a ha => hWm a ha) (by omega)
 have hin := (xbW9 hv.m (ofW w x.m.I) 0 (fun a ha => hWm a ha) (.inr (by omega))).2
 have hrl := vaE9 x.G.rows (ofW w x.m.I) 0
 generalize hOut : runM x.G.rows 0 (ofW w x.m.I) = O at *
 have ne : ∀ (L : List Bs), L ∈ x.G.lists → ∀ s ∈ L, s ≠ [] := fun L hL s hs => by
  have := (qaE9 (hv.nm L hL s hs)).1
  intro e; rw [e] at this; simp at this
 have h19 := vT0 x.G hok 1 O none (.inr rfl) (by omega)
 have hot : otE x.G O = 0 := by
  unfold otE
  rw [if_neg (by omega), if_neg]
  intro q
  rw [List.any_eq_true] at q
  obtain ⟨a, ha, q⟩ := q
  have := hin a ha
  simp only [badO, Bool.or_eq_true, decide_eq_true_eq] at q
  omega
 rw [otA, if_pos h0, if_pos hot] at h19
 have h28 : PC Tryz.prog G0 28 [.sl 1 (ints O) none, .sl x.G.zo (strs x.G.outs) x.G.co] (.str (zx0 O x.G.outs)) := zbd9 1 O none x.G.outs x.G.co (.inr rfl) (by omega) (by omega) (fun a ha => by have := hin a ha; omega) n2 (ne _ (by simp [GS.lists]))
 have k19 := vT0 x.G hok 1 l cl (.inr rfl) (by omega)
 have k18 := zax9 x.G hok 1 l cl (.inr rfl) (by omega)
 have k31 := qby9 1 l cl x.G.i (.inr rfl) (by omega)
 rw [otA, if_pos h0] at k19
 rw [wtA, if_pos h0] at k18
 have j19 : otE x.G l = 0 → PC Tryz.prog G0 28 [.sl 1 (ints l) cl, .sl x.G.zo (strs x.G.outs) x.G.co] (.str (zx0 l x.G.outs)) := fun h => zbd9 1 l cl x.G.outs x.G.co (.inr rfl) (by omega) (by omega) (fun a ha => by
  unfold otE at h
  split at h
  ·omega
  split at h
  ·omega
  ·rename_i hh
   have := vbc9 (Bool.eq_false_iff.2 hh) a ha
   omega) n2 (ne _ (by simp [GS.lists]))
 have j18 : xl0 l x.G.i = 0 → PC Tryz.prog G0 28 [.sl 1 (ints l) cl, .sl x.G.zi (strs x.G.ins) x.G.ci] (.str (zx0 l x.G.ins)) := fun h => zbd9 1 l cl x.G.ins x.G.ci (.inr rfl) (by omega) (by omega) (fun a ha => by
  unfold xl0 at h
  split at h
  ·omega
  split at h
  ·omega
  ·rename_i hh
   rw [not_or] at hh
   have := zbV9 (Bool.eq_false_iff.2 hh.2) a ha
   omega) n1 (ne _ (by simp [GS.lists]))
 have hoE : otE x.G l = if 256 < l.length then 3 else bO x.G.o l l.length := by unfold otE bO; rw [List.take_length]
 have hE0 : otE x.G l = 0 ∨ otE x.G l = 1 ∨ otE x.G l = 3 := by unfold otE; split; exact .inr (.inr rfl); split; exact .inr (.inl rfl); exact .inl rfl
 have hC0 : xl0 l x.G.i = 0 ∨ xl0 l x.G.i = 1 ∨ xl0 l x.G.i = 3 := by unfold xl0; split; exact .inr (.inr rfl); split; exact .inr (.inl rfl); exact .inl rfl
 have hb1 : ∀ k, bO x.G.o l k = 0 ∨ bO x.G.o l k = 1 := fun k => by unfold bO; split; exact .inr rfl; exact .inl rfl
 have hlv := wcN9
 have hid := fun p => xab9 p x.G
 have hio : ∀ p, idsE p (ints (ofW w x.m.I)) = true := fun p => kj0 p _
 have hiq : ∀ p, idsE p (ints O) = true := fun p => kj0 p _
 have hi2 : ∀ p, idsE p (strs x.G.ins) = true := fun p => wa0 p _
 have hi3 : ∀ p, idsE p (strs x.G.outs) = true := fun p => wa0 p _
 have hi4 : ∀ p, idsE p (strs x.G.sts) = true := fun p => wa0 p _
 have hi1 : ∀ p, idsE p (qe0 x.G.rows) = true := fun p => kf0 p _
 unfold GS.A at *
 rw [← hGi] at h27
 generalize zx0 O x.G.outs = T at *
 generalize zx0 l x.G.outs = T1 at *
 generalize zx0 l x.G.ins = T2 at *
 generalize xl0 l x.G.i = C at *
 generalize otE x.G l = E at *
 clear hin hOut hWm hWl hrl hot hm hci hco l1 l2 l3 l4 l5 l6 n1 n2 hGi ne hv hok h0 bI
 generalize hofw : ofW w x.m.I = OW at *
 clear hofw
 generalize x.G = g at *
 unfold ndC mdC at *
 simp only [List.cons_append, List.nil_append] at *
 refine qd0 0 137 [.tmp 6] Tryz.func8 rfl rfl rfl (by simp) ?_
 intro s ⟨a0, a1, a2, hz⟩
 simp only [Nat.zero_add, Nat.reduceAdd] at a1 a2
 clear hz
 repeat' (first|refine nav ?_|(refine g0_ ?_; refine goD ?_)|(with_reducible refine gG ?_ ?_)|((with_reducible refine And.intro (fun h => ?_) (fun h => ?_)) <;> try (exfalso; omega))|(with_reducible refine andG ?_)|(first|(refine ⟨_, _, qa0 (h21) (by (simp [idsL, idsE, AV.ids, hie, hiw, hid, hio, hiq, hi1, hi2, hi3, hi4, hil])) _, ?_⟩)|(refine ⟨_, qa0 (h21) (by (simp [idsL, idsE, AV.ids, hie, hiw, hid, hio, hiq, hi1, hi2, hi3, hi4, hil])) _, ?_⟩)|(refine ⟨_, fun _ => qa0 (h21) (by (simp [idsL, idsE, AV.ids, hie, hiw, hid, hio, hiq, hi1, hi2, hi3, hi4, hil])) _, ?_⟩)|(refine ⟨_, _, qa0 (h27) (by (simp [idsL, idsE, AV.ids, hie, hiw, hid, hio, hiq, hi1, hi2, hi3, hi4, hil])) _, ?_⟩)|(refine ⟨_, qa0 (h27) (by (simp [idsL, idsE, AV.ids, hie, hiw, hid, hio, hiq, hi1, hi2, hi3, hi4, hil])) _, ?_⟩)|(refine ⟨_, fun _ => qa0 (h27) (by (simp [idsL, idsE, AV.ids, hie, hiw, hid, hio, hiq, hi1, hi2, hi3, hi4, hil])) _, ?_⟩)|(refine ⟨_, _, qa0 (h30) (by (simp [idsL, idsE, AV.ids, hie, hiw, hid, hio, hiq, hi1, hi2, hi3, hi4, hil])) _, ?_⟩)|(refine ⟨_, qa0 (h30) (by (simp [idsL, idsE, AV.ids, hie, hiw, hid, hio, hiq, hi1, hi2, hi3, hi4, hil])) _, ?_⟩)|(refine ⟨_, fun _ => qa0 (h30) (by (simp [idsL, idsE, AV.ids, hie, hiw, hid, hio, hiq, hi1, hi2, hi3, hi4, hil])) _, ?_⟩)|(refine ⟨_, _, qa0 (h19) (by (simp [idsL, idsE, AV.ids, hie, hiw, hid, hio, hiq, hi1, hi2, hi3, hi4, hil])) _, ?_⟩)|(refine ⟨_, qa0 (h19) (by (simp [idsL, idsE, AV.ids, hie, hiw, hid, hio, hiq, hi1, hi2, hi3, hi4, hil])) _, ?_⟩)|(refine ⟨_, fun _ => qa0 (h19) (by (simp [idsL, idsE, AV.ids, hie, hiw, hid, hio, hiq, hi1, hi2, hi3, hi4, hil])) _, ?_⟩)|(refine ⟨_, _, qa0 (h28) (by (simp [idsL, idsE, AV.ids, hie, hiw, hid, hio, hiq, hi1, hi2, hi3, hi4, hil])) _, ?_⟩)|(refine ⟨_, qa0 (h28) (by (simp [idsL, idsE, AV.ids, hie, hiw, hid, hio, hiq, hi1, hi2, hi3, hi4, hil])) _, ?_⟩)|(refine ⟨_, fun _ => qa0 (h28) (by (simp [idsL, idsE, AV.ids, hie, hiw, hid, hio, hiq, hi1, hi2, hi3, hi4, hil])) _, ?_⟩))|simp (disch := (first|exact discB|fail)) only [push_cast, simprocAttr, a0, a1, a2, hb', hL])
 refine go_loop rfl (fun mz s' H' => ∃ k : Nat, k ≤ l.length ∧ mz = l.length - k ∧ H' = [.row 6 46 [[.int .u8 x.m.st, .int .u8 x.m.inp, .int .u8 x.m.ou, .bool x.m.pa, .sl z (u16s x.m.es) c, .int .u8 x.nm]], .row 1 59 [[.sl zw (u8s w) cw]], .row 7 27 [[.str g.nm, .int .i64 g.i, .int .i64 g.o, .sl g.zr (qe0 g.rows) g.cr, .sl g.zi (strs g.ins) g.ci, .sl g.zo (strs g.outs) g.co, .sl g.zs (strs g.sts) g.cs]]] ∧ s' 2 = .sl 1 (ints l) cl ∧ s' 7 = .ptr 2 0 0 1 ∧ s' 11 = .int .i64 (bO g.o l k) ∧ s' 12 = .int .i64 k) (m := l.length) (by first|exact kb0|fail) (Weak.refl _ _) ⟨0, by omega, by omega, rfl, ?_⟩ ?_
 ·simp (disch := (first|exact discB|fail)) only [push_cast, simprocAttr, a0, a1, a2, hb', hL]
  all_goals rfl
 ·rintro mz s' H' ⟨k, hk, rfl, rfl, b2, b7, b11, b12⟩
  rcases Nat.lt_or_ge k l.length with hlt|hge
  ·have e1 := kr0 l k hlt
   have hsc := wcO9 g.o l k hlt
   have hbo : badO g.o (l.getD k 0) = (decide (l.getD k 0 < -1) || decide (g.o ≤ l.getD k 0)) := rfl
   rw [hbo] at hsc
   generalize l.getD k 0 = v at *
   repeat' (first|refine nav ?_|(refine g0_ ?_; refine goD ?_)|(with_reducible refine gG ?_ ?_)|((with_reducible refine And.intro (fun h => ?_) (fun h => ?_)) <;> try (exfalso; omega))|(with_reducible refine andG ?_)|fail|simp (disch := (first|exact discB|fail)) only [push_cast, simprocAttr, b2, b7, b11, b12, e1, hL])
   ·refine wb0 (l.length - (k + 1)) (by omega) (by first|exact kb0|fail) ⟨k + 1, by omega, rfl, rfl, ?_⟩
    simp (disch := (first|exact discB|fail)) only [push_cast, simprocAttr, b2, b7, b11, b12, e1, hL]
    rw [hsc, if_pos (by simp only [Bool.or_eq_true, decide_eq_true_eq]; omega)]
   ·refine wb0 (l.length - (k + 1)) (by omega) (by first|exact kb0|fail) ⟨k + 1, by omega, rfl, rfl, ?_⟩
    simp (disch := (first|exact discB|fail)) only [push_cast, simprocAttr, b2, b7, b11, b12, e1, hL]
    rw [hsc, if_neg (by simp only [Bool.or_eq_true, decide_eq_true_eq]; omega)]
  ·obtain rfl : k = l.length := by omega
   have hb1 := hb1 l.length
   rw [hoE] at *
   generalize bO g.o l l.length = B at *
   by_cases h256 : 256 < l.length
   ·rw [if_pos h256] at *
    have h256' : (256 : Int) < l.length := by omega
    rw [if_neg (by decide)] at k19
    by_cases hC : C = 0
    ·subst hC
     rw [if_pos rfl] at k18
     have j18 := j18 rfl
     repeat' (first|refine nav ?_|(refine g0_ ?_; refine goD ?_)|(with_reducible refine gG ?_ ?_)|((with_reducible refine And.intro (fun h => ?_) (fun h => ?_)) <;> try (exfalso; omega))|(with_reducible refine andG ?_)|(first|(refine ⟨_, _, qa0 (k19) (by (simp [idsL, idsE, AV.ids, hie, hiw, hid, hio, hiq, hi1, hi2, hi3, hi4, hil])) _, ?_⟩)|(refine ⟨_, qa0 (k19) (by (simp [idsL, idsE, AV.ids, hie, hiw, hid, hio, hiq, hi1, hi2, hi3, hi4, hil])) _, ?_⟩)|(refine ⟨_, fun _ => qa0 (k19) (by (simp [idsL, idsE, AV.ids, hie, hiw, hid, hio, hiq, hi1, hi2, hi3, hi4, hil])) _, ?_⟩)|(refine ⟨_, _, qa0 (k18) (by (simp [idsL, idsE, AV.ids, hie, hiw, hid, hio, hiq, hi1, hi2, hi3, hi4, hil])) _, ?_⟩)|(refine ⟨_, qa0 (k18) (by (simp [idsL, idsE, AV.ids, hie, hiw, hid, hio, hiq, hi1, hi2, hi3, hi4, hil])) _, ?_⟩)|(refine ⟨_, fun _ => qa0 (k18) (by (simp [idsL, idsE, AV.ids, hie, hiw, hid, hio, hiq, hi1, hi2, hi3, hi4, hil])) _, ?_⟩)|(refine ⟨_, _, qa0 (k31) (by (simp [idsL, idsE, AV.ids, hie, hiw, hid, hio, hiq, hi1, hi2, hi3, hi4, hil])) _, ?_⟩)|(refine ⟨_, qa0 (k31) (by (simp [idsL, idsE, AV.ids, hie, hiw, hid, hio, hiq, hi1, hi2, hi3, hi4, hil])) _, ?_⟩)|(refine ⟨_, fun _ => qa0 (k31) (by (simp [idsL, idsE, AV.ids, hie, hiw, hid, hio, hiq, hi1, hi2, hi3, hi4, hil])) _, ?_⟩)|(refine ⟨_, _, qa0 (j18) (by (simp [idsL, idsE, AV.ids, hie, hiw, hid, hio, hiq, hi1, hi2, hi3, hi4, hil])) _, ?_⟩)|(refine ⟨_, qa0 (j18) (by (simp [idsL, idsE, AV.ids, hie, hiw, hid, hio, hiq, hi1, hi2, hi3, hi4, hil])) _, ?_⟩)|(refine ⟨_, fun _ => qa0 (j18) (by (simp [idsL, idsE, AV.ids, hie, hiw, hid, hio, hiq, hi1, hi2, hi3, hi4, hil])) _, ?_⟩)|(refine ⟨_, _, qa0 (hlv) (by (simp [idsL, idsE, AV.ids, hie, hiw, hid, hio, hiq, hi1, hi2, hi3, hi4, hil])) _, ?_⟩)|(refine ⟨_, qa0 (hlv) (by (simp [idsL, idsE, AV.ids, hie, hiw, hid, hio, hiq, hi1, hi2, hi3, hi4, hil])) _, ?_⟩)|(refine ⟨_, fun _ => qa0 (hlv) (by (simp [idsL, idsE, AV.ids, hie, hiw, hid, hio, hiq, hi1, hi2, hi3, hi4, hil])) _, ?_⟩))|simp (disch := (first|exact discB|fail)) only [push_cast, simprocAttr, b2, b7, b11, b12, hL, h256'])
     all_goals (refine ⟨.top, ?_⟩)
     repeat' (first|refine nav ?_|(refine g0_ ?_; refine goD ?_)|(with_reducible refine gG ?_ ?_)|((with_reducible refine And.intro (fun h => ?_) (fun h => ?_)) <;> try (exfalso; omega))|(with_reducible refine andG ?_)|(first|(refine ⟨_, _, qa0 (k19) (by (simp [idsL, idsE, AV.ids, hie, hiw, hid, hio, hiq, hi1, hi2, hi3, hi4, hil])) _, ?_⟩)|(refine ⟨_, qa0 (k19) (by (simp [idsL, idsE, AV.ids, hie, hiw, hid, hio, hiq, hi1, hi2, hi3, hi4, hil])) _, ?_⟩)|(refine ⟨_, fun _ => qa0 (k19) (by (simp [idsL, idsE, AV.ids, hie, hiw, hid, hio, hiq, hi1, hi2, hi3, hi4, hil])) _, ?_⟩)|(refine ⟨_, _, qa0 (k18) (by (simp [idsL, idsE, AV.ids, hie, hiw, hid, hio, hiq, hi1, hi2, hi3, hi4, hil])) _, ?_⟩)|(refine ⟨_, qa0 (k18) (by (simp [idsL, idsE, AV.ids, hie, hiw, hid, hio, hiq, hi1, hi2, hi3, hi4, hil])) _, ?_⟩)|(refine ⟨_, fun _ => qa0 (k18) (by (simp [idsL, idsE, AV.ids, hie, hiw, hid, hio, hiq, hi1, hi2, hi3, hi4, hil])) _, ?_⟩)|(refine ⟨_, _, qa0 (k31) (by (simp [idsL, idsE, AV.ids, hie, hiw, hid, hio, hiq, hi1, hi2, hi3, hi4, hil])) _, ?_⟩)|(refine ⟨_, qa0 (k31) (by (simp [idsL, idsE, AV.ids, hie, hiw, hid, hio, hiq, hi1, hi2, hi3, hi4, hil])) _, ?_⟩)|(refine ⟨_, fun _ => qa0 (k31) (by (simp [idsL, idsE, AV.ids, hie, hiw, hid, hio, hiq, hi1, hi2, hi3, hi4, hil])) _, ?_⟩)|(refine ⟨_, _, qa0 (j18) (by (simp [idsL, idsE, AV.ids, hie, hiw, hid, hio, hiq, hi1, hi2, hi3, hi4, hil])) _, ?_⟩)|(refine ⟨_, qa0 (j18) (by (simp [idsL, idsE, AV.ids, hie, hiw, hid, hio, hiq, hi1, hi2, hi3, hi4, hil])) _, ?_⟩)|(refine ⟨_, fun _ => qa0 (j18) (by (simp [idsL, idsE, AV.ids, hie, hiw, hid, hio, hiq, hi1, hi2, hi3, hi4, hil])) _, ?_⟩)|(refine ⟨_, _, qa0 (hlv) (by (simp [idsL, idsE, AV.ids, hie, hiw, hid, hio, hiq, hi1, hi2, hi3, hi4, hil])) _, ?_⟩)|(refine ⟨_, qa0 (hlv) (by (simp [idsL, idsE, AV.ids, hie, hiw, hid, hio, hiq, hi1, hi2, hi3, hi4, hil])) _, ?_⟩)|(refine ⟨_, fun _ => qa0 (hlv) (by (simp [idsL, idsE, AV.ids, hie, hiw, hid, hio, hiq, hi1, hi2, hi3, hi4, hil])) _, ?_⟩))|simp (disch := (first|exact discB|fail)) only [push_cast, simprocAttr, b2, b7, b11, b12, hL, h256'])
    ·rw [if_neg hC] at k18
     repeat' (first|refine nav ?_|(refine g0_ ?_; refine goD ?_)|(with_reducible refine gG ?_ ?_)|((with_reducible refine And.intro (fun h => ?_) (fun h => ?_)) <;> try (exfalso; omega))|(with_reducible refine andG ?_)|(first|(refine ⟨_, _, qa0 (k19) (by (simp [idsL, idsE, AV.ids, hie, hiw, hid, hio, hiq, hi1, hi2, hi3, hi4, hil])) _, ?_⟩)|(refine ⟨_, qa0 (k19) (by (simp [idsL, idsE, AV.ids, hie, hiw, hid, hio, hiq, hi1, hi2, hi3, hi4, hil])) _, ?_⟩)|(refine ⟨_, fun _ => qa0 (k19) (by (simp [idsL, idsE, AV.ids, hie, hiw, hid, hio, hiq, hi1, hi2, hi3, hi4, hil])) _, ?_⟩)|(refine ⟨_, _, qa0 (k18) (by (simp [idsL, idsE, AV.ids, hie, hiw, hid, hio, hiq, hi1, hi2, hi3, hi4, hil])) _, ?_⟩)|(refine ⟨_, qa0 (k18) (by (simp [idsL, idsE, AV.ids, hie, hiw, hid, hio, hiq, hi1, hi2, hi3, hi4, hil])) _, ?_⟩)|(refine ⟨_, fun _ => qa0 (k18) (by (simp [idsL, idsE, AV.ids, hie, hiw, hid, hio, hiq, hi1, hi2, hi3, hi4, hil])) _, ?_⟩)|(refine ⟨_, _, qa0 (k31) (by (simp [idsL, idsE, AV.ids, hie, hiw, hid, hio, hiq, hi1, hi2, hi3, hi4, hil])) _, ?_⟩)|(refine ⟨_, qa0 (k31) (by (simp [idsL, idsE, AV.ids, hie, hiw, hid, hio, hiq, hi1, hi2, hi3, hi4, hil])) _, ?_⟩)|(refine ⟨_, fun _ => qa0 (k31) (by (simp [idsL, idsE, AV.ids, hie, hiw, hid, hio, hiq, hi1, hi2, hi3, hi4, hil])) _, ?_⟩)|(refine ⟨_, _, qa0 (hlv) (by (simp [idsL, idsE, AV.ids, hie, hiw, hid, hio, hiq, hi1, hi2, hi3, hi4, hil])) _, ?_⟩)|(refine ⟨_, qa0 (hlv) (by (simp [idsL, idsE, AV.ids, hie, hiw, hid, hio, hiq, hi1, hi2, hi3, hi4, hil])) _, ?_⟩)|(refine ⟨_, fun _ => qa0 (hlv) (by (simp [idsL, idsE, AV.ids, hie, hiw, hid, hio, hiq, hi1, hi2, hi3, hi4, hil])) _, ?_⟩))|simp (disch := (first|exact discB|fail)) only [push_cast, simprocAttr, b2, b7, b11, b12, hL, h256', hC])
     all_goals (refine ⟨.top, ?_⟩)
     repeat' (first|refine nav ?_|(refine g0_ ?_; refine goD ?_)|(with_reducible refine gG ?_ ?_)|((with_reducible refine And.intro (fun h => ?_) (fun h => ?_)) <;> try (exfalso; omega))|(with_reducible refine andG ?_)|(first|(refine ⟨_, _, qa0 (k19) (by (simp [idsL, idsE, AV.ids, hie, hiw, hid, hio, hiq, hi1, hi2, hi3, hi4, hil])) _, ?_⟩)|(refine ⟨_, qa0 (k19) (by (simp [idsL, idsE, AV.ids, hie, hiw, hid, hio, hiq, hi1, hi2, hi3, hi4, hil])) _, ?_⟩)|(refine ⟨_, fun _ => qa0 (k19) (by (simp [idsL, idsE, AV.ids, hie, hiw, hid, hio, hiq, hi1, hi2, hi3, hi4, hil])) _, ?_⟩)|(refine ⟨_, _, qa0 (k18) (by (simp [idsL, idsE, AV.ids, hie, hiw, hid, hio, hiq, hi1, hi2, hi3, hi4, hil])) _, ?_⟩)|(refine ⟨_, qa0 (k18) (by (simp [idsL, idsE, AV.ids, hie, hiw, hid, hio, hiq, hi1, hi2, hi3, hi4, hil])) _, ?_⟩)|(refine ⟨_, fun _ => qa0 (k18) (by (simp [idsL, idsE, AV.ids, hie, hiw, hid, hio, hiq, hi1, hi2, hi3, hi4, hil])) _, ?_⟩)|(refine ⟨_, _, qa0 (k31) (by (simp [idsL, idsE, AV.ids, hie, hiw, hid, hio, hiq, hi1, hi2, hi3, hi4, hil])) _, ?_⟩)|(refine ⟨_, qa0 (k31) (by (simp [idsL, idsE, AV.ids, hie, hiw, hid, hio, hiq, hi1, hi2, hi3, hi4, hil])) _, ?_⟩)|(refine ⟨_, fun _ => qa0 (k31) (by (simp [idsL, idsE, AV.ids, hie, hiw, hid, hio, hiq, hi1, hi2, hi3, hi4, hil])) _, ?_⟩)|(refine ⟨_, _, qa0 (hlv) (by (simp [idsL, idsE, AV.ids, hie, hiw, hid, hio, hiq, hi1, hi2, hi3, hi4, hil])) _, ?_⟩)|(refine ⟨_, qa0 (hlv) (by (simp [idsL, idsE, AV.ids, hie, hiw, hid, hio, hiq, hi1, hi2, hi3, hi4, hil])) _, ?_⟩)|(refine ⟨_, fun _ => qa0 (hlv) (by (simp [idsL, idsE, AV.ids, hie, hiw, hid, hio, hiq, hi1, hi2, hi3, hi4, hil])) _, ?_⟩))|simp (disch := (first|exact discB|fail)) only [push_cast, simprocAttr, b2, b7, b11, b12, hL, h256', hC])
     all_goals (refine ⟨.top, ?_⟩)
     repeat' (first|refine nav ?_|(refine g0_ ?_; refine goD ?_)|(with_reducible refine gG ?_ ?_)|((with_reducible refine And.intro (fun h => ?_) (fun h => ?_)) <;> try (exfalso; omega))|(with_reducible refine andG ?_)|(first|(refine ⟨_, _, qa0 (k19) (by (simp [idsL, idsE, AV.ids, hie, hiw, hid, hio, hiq, hi1, hi2, hi3, hi4, hil])) _, ?_⟩)|(refine ⟨_, qa0 (k19) (by (simp [idsL, idsE, AV.ids, hie, hiw, hid, hio, hiq, hi1, hi2, hi3, hi4, hil])) _, ?_⟩)|(refine ⟨_, fun _ => qa0 (k19) (by (simp [idsL, idsE, AV.ids, hie, hiw, hid, hio, hiq, hi1, hi2, hi3, hi4, hil])) _, ?_⟩)|(refine ⟨_, _, qa0 (k18) (by (simp [idsL, idsE, AV.ids, hie, hiw, hid, hio, hiq, hi1, hi2, hi3, hi4, hil])) _, ?_⟩)|(refine ⟨_, qa0 (k18) (by (simp [idsL, idsE, AV.ids, hie, hiw, hid, hio, hiq, hi1, hi2, hi3, hi4, hil])) _, ?_⟩)|(refine ⟨_, fun _ => qa0 (k18) (by (simp [idsL, idsE, AV.ids, hie, hiw, hid, hio, hiq, hi1, hi2, hi3, hi4, hil])) _, ?_⟩)|(refine ⟨_, _, qa0 (k31) (by (simp [idsL, idsE, AV.ids, hie, hiw, hid, hio, hiq, hi1, hi2, hi3, hi4, hil])) _, ?_⟩)|(refine ⟨_, qa0 (k31) (by (simp [idsL, idsE, AV.ids, hie, hiw, hid, hio, hiq, hi1, hi2, hi3, hi4, hil])) _, ?_⟩)|(refine ⟨_, fun _ => qa0 (k31) (by (simp [idsL, idsE, AV.ids, hie, hiw, hid, hio, hiq, hi1, hi2, hi3, hi4, hil])) _, ?_⟩)|(refine ⟨_, _, qa0 (hlv) (by (simp [idsL, idsE, AV.ids, hie, hiw, hid, hio, hiq, hi1, hi2, hi3, hi4, hil])) _, ?_⟩)|(refine ⟨_, qa0 (hlv) (by (simp [idsL, idsE, AV.ids, hie, hiw, hid, hio, hiq, hi1, hi2, hi3, hi4, hil])) _, ?_⟩)|(refine ⟨_, fun _ => qa0 (hlv) (by (simp [idsL, idsE, AV.ids, hie, hiw, hid, hio, hiq, hi1, hi2, hi3, hi4, hil])) _, ?_⟩))|simp (disch := (first|exact discB|fail)) only [push_cast, simprocAttr, b2, b7, b11, b12, hL, h256', hC])
   ·rw [if_neg h256] at *
    have h256' : ¬ (256 : Int) < l.length := by omega
    by_cases hB : B = 0
    ·subst hB
     rw [if_pos rfl] at k19
     have j19 := j19 rfl
     by_cases hC : C = 0
     ·subst hC
      rw [if_pos rfl] at k18
      have j18 := j18 rfl
      repeat' (first|refine nav ?_|(refine g0_ ?_; refine goD ?_)|(with_reducible refine gG ?_ ?_)|((with_reducible refine And.intro (fun h => ?_) (fun h => ?_)) <;> try (exfalso; omega))|(with_reducible refine andG ?_)|(first|(refine ⟨_, _, qa0 (k19) (by (simp [idsL, idsE, AV.ids, hie, hiw, hid, hio, hiq, hi1, hi2, hi3, hi4, hil])) _, ?_⟩)|(refine ⟨_, qa0 (k19) (by (simp [idsL, idsE, AV.ids, hie, hiw, hid, hio, hiq, hi1, hi2, hi3, hi4, hil])) _, ?_⟩)|(refine ⟨_, fun _ => qa0 (k19) (by (simp [idsL, idsE, AV.ids, hie, hiw, hid, hio, hiq, hi1, hi2, hi3, hi4, hil])) _, ?_⟩)|(refine ⟨_, _, qa0 (k18) (by (simp [idsL, idsE, AV.ids, hie, hiw, hid, hio, hiq, hi1, hi2, hi3, hi4, hil])) _, ?_⟩)|(refine ⟨_, qa0 (k18) (by (simp [idsL, idsE, AV.ids, hie, hiw, hid, hio, hiq, hi1, hi2, hi3, hi4, hil])) _, ?_⟩)|(refine ⟨_, fun _ => qa0 (k18) (by (simp [idsL, idsE, AV.ids, hie, hiw, hid, hio, hiq, hi1, hi2, hi3, hi4, hil])) _, ?_⟩)|(refine ⟨_, _, qa0 (k31) (by (simp [idsL, idsE, AV.ids, hie, hiw, hid, hio, hiq, hi1, hi2, hi3, hi4, hil])) _, ?_⟩)|(refine ⟨_, qa0 (k31) (by (simp [idsL, idsE, AV.ids, hie, hiw, hid, hio, hiq, hi1, hi2, hi3, hi4, hil])) _, ?_⟩)|(refine ⟨_, fun _ => qa0 (k31) (by (simp [idsL, idsE, AV.ids, hie, hiw, hid, hio, hiq, hi1, hi2, hi3, hi4, hil])) _, ?_⟩)|(refine ⟨_, _, qa0 (j19) (by (simp [idsL, idsE, AV.ids, hie, hiw, hid, hio, hiq, hi1, hi2, hi3, hi4, hil])) _, ?_⟩)|(refine ⟨_, qa0 (j19) (by (simp [idsL, idsE, AV.ids, hie, hiw, hid, hio, hiq, hi1, hi2, hi3, hi4, hil])) _, ?_⟩)|(refine ⟨_, fun _ => qa0 (j19) (by (simp [idsL, idsE, AV.ids, hie, hiw, hid, hio, hiq, hi1, hi2, hi3, hi4, hil])) _, ?_⟩)|(refine ⟨_, _, qa0 (j18) (by (simp [idsL, idsE, AV.ids, hie, hiw, hid, hio, hiq, hi1, hi2, hi3, hi4, hil])) _, ?_⟩)|(refine ⟨_, qa0 (j18) (by (simp [idsL, idsE, AV.ids, hie, hiw, hid, hio, hiq, hi1, hi2, hi3, hi4, hil])) _, ?_⟩)|(refine ⟨_, fun _ => qa0 (j18) (by (simp [idsL, idsE, AV.ids, hie, hiw, hid, hio, hiq, hi1, hi2, hi3, hi4, hil])) _, ?_⟩)|(refine ⟨_, _, qa0 (hlv) (by (simp [idsL, idsE, AV.ids, hie, hiw, hid, hio, hiq, hi1, hi2, hi3, hi4, hil])) _, ?_⟩)|(refine ⟨_, qa0 (hlv) (by (simp [idsL, idsE, AV.ids, hie, hiw, hid, hio, hiq, hi1, hi2, hi3, hi4, hil])) _, ?_⟩)|(refine ⟨_, fun _ => qa0 (hlv) (by (simp [idsL, idsE, AV.ids, hie, hiw, hid, hio, hiq, hi1, hi2, hi3, hi4, hil])) _, ?_⟩))|simp (disch := (first|exact discB|fail)) only [push_cast, simprocAttr, b2, b7, b11, b12, hL, h256'])
     ·rw [if_neg hC] at k18
      repeat' (first|refine nav ?_|(refine g0_ ?_; refine goD ?_)|(with_reducible refine gG ?_ ?_)|((with_reducible refine And.intro (fun h => ?_) (fun h => ?_)) <;> try (exfalso; omega))|(with_reducible refine andG ?_)|(first|(refine ⟨_, _, qa0 (k19) (by (simp [idsL, idsE, AV.ids, hie, hiw, hid, hio, hiq, hi1, hi2, hi3, hi4, hil])) _, ?_⟩)|(refine ⟨_, qa0 (k19) (by (simp [idsL, idsE, AV.ids, hie, hiw, hid, hio, hiq, hi1, hi2, hi3, hi4, hil])) _, ?_⟩)|(refine ⟨_, fun _ => qa0 (k19) (by (simp [idsL, idsE, AV.ids, hie, hiw, hid, hio, hiq, hi1, hi2, hi3, hi4, hil])) _, ?_⟩)|(refine ⟨_, _, qa0 (k18) (by (simp [idsL, idsE, AV.ids, hie, hiw, hid, hio, hiq, hi1, hi2, hi3, hi4, hil])) _, ?_⟩)|(refine ⟨_, qa0 (k18) (by (simp [idsL, idsE, AV.ids, hie, hiw, hid, hio, hiq, hi1, hi2, hi3, hi4, hil])) _, ?_⟩)|(refine ⟨_, fun _ => qa0 (k18) (by (simp [idsL, idsE, AV.ids, hie, hiw, hid, hio, hiq, hi1, hi2, hi3, hi4, hil])) _, ?_⟩)|(refine ⟨_, _, qa0 (k31) (by (simp [idsL, idsE, AV.ids, hie, hiw, hid, hio, hiq, hi1, hi2, hi3, hi4, hil])) _, ?_⟩)|(refine ⟨_, qa0 (k31) (by (simp [idsL, idsE, AV.ids, hie, hiw, hid, hio, hiq, hi1, hi2, hi3, hi4, hil])) _, ?_⟩)|(refine ⟨_, fun _ => qa0 (k31) (by (simp [idsL, idsE, AV.ids, hie, hiw, hid, hio, hiq, hi1, hi2, hi3, hi4, hil])) _, ?_⟩)|(refine ⟨_, _, qa0 (j19) (by (simp [idsL, idsE, AV.ids, hie, hiw, hid, hio, hiq, hi1, hi2, hi3, hi4, hil])) _, ?_⟩)|(refine ⟨_, qa0 (j19) (by (simp [idsL, idsE, AV.ids, hie, hiw, hid, hio, hiq, hi1, hi2, hi3, hi4, hil])) _, ?_⟩)|(refine ⟨_, fun _ => qa0 (j19) (by (simp [idsL, idsE, AV.ids, hie, hiw, hid, hio, hiq, hi1, hi2, hi3, hi4, hil])) _, ?_⟩)|(refine ⟨_, _, qa0 (hlv) (by (simp [idsL, idsE, AV.ids, hie, hiw, hid, hio, hiq, hi1, hi2, hi3, hi4, hil])) _, ?_⟩)|(refine ⟨_, qa0 (hlv) (by (simp [idsL, idsE, AV.ids, hie, hiw, hid, hio, hiq, hi1, hi2, hi3, hi4, hil])) _, ?_⟩)|(refine ⟨_, fun _ => qa0 (hlv) (by (simp [idsL, idsE, AV.ids, hie, hiw, hid, hio, hiq, hi1, hi2, hi3, hi4, hil])) _, ?_⟩))|simp (disch := (first|exact discB|fail)) only [push_cast, simprocAttr, b2, b7, b11, b12, hL, h256', hC])
      all_goals (refine ⟨.top, ?_⟩)
      repeat' (first|refine nav ?_|(refine g0_ ?_; refine goD ?_)|(with_reducible refine gG ?_ ?_)|((with_reducible refine And.intro (fun h => ?_) (fun h => ?_)) <;> try (exfalso; omega))|(with_reducible refine andG ?_)|(first|(refine ⟨_, _, qa0 (k19) (by (simp [idsL, idsE, AV.ids, hie, hiw, hid, hio, hiq, hi1, hi2, hi3, hi4, hil])) _, ?_⟩)|(refine ⟨_, qa0 (k19) (by (simp [idsL, idsE, AV.ids, hie, hiw, hid, hio, hiq, hi1, hi2, hi3, hi4, hil])) _, ?_⟩)|(refine ⟨_, fun _ => qa0 (k19) (by (simp [idsL, idsE, AV.ids, hie, hiw, hid, hio, hiq, hi1, hi2, hi3, hi4, hil])) _, ?_⟩)|(refine ⟨_, _, qa0 (k18) (by (simp [idsL, idsE, AV.ids, hie, hiw, hid, hio, hiq, hi1, hi2, hi3, hi4, hil])) _, ?_⟩)|(refine ⟨_, qa0 (k18) (by (simp [idsL, idsE, AV.ids, hie, hiw, hid, hio, hiq, hi1, hi2, hi3, hi4, hil])) _, ?_⟩)|(refine ⟨_, fun _ => qa0 (k18) (by (simp [idsL, idsE, AV.ids, hie, hiw, hid, hio, hiq, hi1, hi2, hi3, hi4, hil])) _, ?_⟩)|(refine ⟨_, _, qa0 (k31) (by (simp [idsL, idsE, AV.ids, hie, hiw, hid, hio, hiq, hi1, hi2, hi3, hi4, hil])) _, ?_⟩)|(refine ⟨_, qa0 (k31) (by (simp [idsL, idsE, AV.ids, hie, hiw, hid, hio, hiq, hi1, hi2, hi3, hi4, hil])) _, ?_⟩)|(refine ⟨_, fun _ => qa0 (k31) (by (simp [idsL, idsE, AV.ids, hie, hiw, hid, hio, hiq, hi1, hi2, hi3, hi4, hil])) _, ?_⟩)|(refine ⟨_, _, qa0 (j19) (by (simp [idsL, idsE, AV.ids, hie, hiw, hid, hio, hiq, hi1, hi2, hi3, hi4, hil])) _, ?_⟩)|(refine ⟨_, qa0 (j19) (by (simp [idsL, idsE, AV.ids, hie, hiw, hid, hio, hiq, hi1, hi2, hi3, hi4, hil])) _, ?_⟩)|(refine ⟨_, fun _ => qa0 (j19) (by (simp [idsL, idsE, AV.ids, hie, hiw, hid, hio, hiq, hi1, hi2, hi3, hi4, hil])) _, ?_⟩)|(refine ⟨_, _, qa0 (hlv) (by (simp [idsL, idsE, AV.ids, hie, hiw, hid, hio, hiq, hi1, hi2, hi3, hi4, hil])) _, ?_⟩)|(refine ⟨_, qa0 (hlv) (by (simp [idsL, idsE, AV.ids, hie, hiw, hid, hio, hiq, hi1, hi2, hi3, hi4, hil])) _, ?_⟩)|(refine ⟨_, fun _ => qa0 (hlv) (by (simp [idsL, idsE, AV.ids, hie, hiw, hid, hio, hiq, hi1, hi2, hi3, hi4, hil])) _, ?_⟩))|simp (disch := (first|exact discB|fail)) only [push_cast, simprocAttr, b2, b7, b11, b12, hL, h256', hC])
    ·rw [if_neg hB] at k19
     by_cases hC : C = 0
     ·subst hC
      rw [if_pos rfl] at k18
      have j18 := j18 rfl
      repeat' (first|refine nav ?_|(refine g0_ ?_; refine goD ?_)|(with_reducible refine gG ?_ ?_)|((with_reducible refine And.intro (fun h => ?_) (fun h => ?_)) <;> try (exfalso; omega))|(with_reducible refine andG ?_)|(first|(refine ⟨_, _, qa0 (k19) (by (simp [idsL, idsE, AV.ids, hie, hiw, hid, hio, hiq, hi1, hi2, hi3, hi4, hil])) _, ?_⟩)|(refine ⟨_, qa0 (k19) (by (simp [idsL, idsE, AV.ids, hie, hiw, hid, hio, hiq, hi1, hi2, hi3, hi4, hil])) _, ?_⟩)|(refine ⟨_, fun _ => qa0 (k19) (by (simp [idsL, idsE, AV.ids, hie, hiw, hid, hio, hiq, hi1, hi2, hi3, hi4, hil])) _, ?_⟩)|(refine ⟨_, _, qa0 (k18) (by (simp [idsL, idsE, AV.ids, hie, hiw, hid, hio, hiq, hi1, hi2, hi3, hi4, hil])) _, ?_⟩)|(refine ⟨_, qa0 (k18) (by (simp [idsL, idsE, AV.ids, hie, hiw, hid, hio, hiq, hi1, hi2, hi3, hi4, hil])) _, ?_⟩)|(refine ⟨_, fun _ => qa0 (k18) (by (simp [idsL, idsE, AV.ids, hie, hiw, hid, hio, hiq, hi1, hi2, hi3, hi4, hil])) _, ?_⟩)|(refine ⟨_, _, qa0 (k31) (by (simp [idsL, idsE, AV.ids, hie, hiw, hid, hio, hiq, hi1, hi2, hi3, hi4, hil])) _, ?_⟩)|(refine ⟨_, qa0 (k31) (by (simp [idsL, idsE, AV.ids, hie, hiw, hid, hio, hiq, hi1, hi2, hi3, hi4, hil])) _, ?_⟩)|(refine ⟨_, fun _ => qa0 (k31) (by (simp [idsL, idsE, AV.ids, hie, hiw, hid, hio, hiq, hi1, hi2, hi3, hi4, hil])) _, ?_⟩)|(refine ⟨_, _, qa0 (j18) (by (simp [idsL, idsE, AV.ids, hie, hiw, hid, hio, hiq, hi1, hi2, hi3, hi4, hil])) _, ?_⟩)|(refine ⟨_, qa0 (j18) (by (simp [idsL, idsE, AV.ids, hie, hiw, hid, hio, hiq, hi1, hi2, hi3, hi4, hil])) _, ?_⟩)|(refine ⟨_, fun _ => qa0 (j18) (by (simp [idsL, idsE, AV.ids, hie, hiw, hid, hio, hiq, hi1, hi2, hi3, hi4, hil])) _, ?_⟩)|(refine ⟨_, _, qa0 (hlv) (by (simp [idsL, idsE, AV.ids, hie, hiw, hid, hio, hiq, hi1, hi2, hi3, hi4, hil])) _, ?_⟩)|(refine ⟨_, qa0 (hlv) (by (simp [idsL, idsE, AV.ids, hie, hiw, hid, hio, hiq, hi1, hi2, hi3, hi4, hil])) _, ?_⟩)|(refine ⟨_, fun _ => qa0 (hlv) (by (simp [idsL, idsE, AV.ids, hie, hiw, hid, hio, hiq, hi1, hi2, hi3, hi4, hil])) _, ?_⟩))|simp (disch := (first|exact discB|fail)) only [push_cast, simprocAttr, b2, b7, b11, b12, hL, h256', hB])
      all_goals (refine ⟨.top, ?_⟩)
      repeat' (first|refine nav ?_|(refine g0_ ?_; refine goD ?_)|(with_reducible refine gG ?_ ?_)|((with_reducible refine And.intro (fun h => ?_) (fun h => ?_)) <;> try (exfalso; omega))|(with_reducible refine andG ?_)|(first|(refine ⟨_, _, qa0 (k19) (by (simp [idsL, idsE, AV.ids, hie, hiw, hid, hio, hiq, hi1, hi2, hi3, hi4, hil])) _, ?_⟩)|(refine ⟨_, qa0 (k19) (by (simp [idsL, idsE, AV.ids, hie, hiw, hid, hio, hiq, hi1, hi2, hi3, hi4, hil])) _, ?_⟩)|(refine ⟨_, fun _ => qa0 (k19) (by (simp [idsL, idsE, AV.ids, hie, hiw, hid, hio, hiq, hi1, hi2, hi3, hi4, hil])) _, ?_⟩)|(refine ⟨_, _, qa0 (k18) (by (simp [idsL, idsE, AV.ids, hie, hiw, hid, hio, hiq, hi1, hi2, hi3, hi4, hil])) _, ?_⟩)|(refine ⟨_, qa0 (k18) (by (simp [idsL, idsE, AV.ids, hie, hiw, hid, hio, hiq, hi1, hi2, hi3, hi4, hil])) _, ?_⟩)|(refine ⟨_, fun _ => qa0 (k18) (by (simp [idsL, idsE, AV.ids, hie, hiw, hid, hio, hiq, hi1, hi2, hi3, hi4, hil])) _, ?_⟩)|(refine ⟨_, _, qa0 (k31) (by (simp [idsL, idsE, AV.ids, hie, hiw, hid, hio, hiq, hi1, hi2, hi3, hi4, hil])) _, ?_⟩)|(refine ⟨_, qa0 (k31) (by (simp [idsL, idsE, AV.ids, hie, hiw, hid, hio, hiq, hi1, hi2, hi3, hi4, hil])) _, ?_⟩)|(refine ⟨_, fun _ => qa0 (k31) (by (simp [idsL, idsE, AV.ids, hie, hiw, hid, hio, hiq, hi1, hi2, hi3, hi4, hil])) _, ?_⟩)|(refine ⟨_, _, qa0 (j18) (by (simp [idsL, idsE, AV.ids, hie, hiw, hid, hio, hiq, hi1, hi2, hi3, hi4, hil])) _, ?_⟩)|(refine ⟨_, qa0 (j18) (by (simp [idsL, idsE, AV.ids, hie, hiw, hid, hio, hiq, hi1, hi2, hi3, hi4, hil])) _, ?_⟩)|(refine ⟨_, fun _ => qa0 (j18) (by (simp [idsL, idsE, AV.ids, hie, hiw, hid, hio, hiq, hi1, hi2, hi3, hi4, hil])) _, ?_⟩)|(refine ⟨_, _, qa0 (hlv) (by (simp [idsL, idsE, AV.ids, hie, hiw, hid, hio, hiq, hi1, hi2, hi3, hi4, hil])) _, ?_⟩)|(refine ⟨_, qa0 (hlv) (by (simp [idsL, idsE, AV.ids, hie, hiw, hid, hio, hiq, hi1, hi2, hi3, hi4, hil])) _, ?_⟩)|(refine ⟨_, fun _ => qa0 (hlv) (by (simp [idsL, idsE, AV.ids, hie, hiw, hid, hio, hiq, hi1, hi2, hi3, hi4, hil])) _, ?_⟩))|simp (disch := (first|exact discB|fail)) only [push_cast, simprocAttr, b2, b7, b11, b12, hL, h256', hB])
     ·rw [if_neg hC] at k18
      repeat' (first|refine nav ?_|(refine g0_ ?_; refine goD ?_)|(with_reducible refine gG ?_ ?_)|((with_reducible refine And.intro (fun h => ?_) (fun h => ?_)) <;> try (exfalso; omega))|(with_reducible refine andG ?_)|(first|(refine ⟨_, _, qa0 (k19) (by (simp [idsL, idsE, AV.ids, hie, hiw, hid, hio, hiq, hi1, hi2, hi3, hi4, hil])) _, ?_⟩)|(refine ⟨_, qa0 (k19) (by (simp [idsL, idsE, AV.ids, hie, hiw, hid, hio, hiq, hi1, hi2, hi3, hi4, hil])) _, ?_⟩)|(refine ⟨_, fun _ => qa0 (k19) (by (simp [idsL, idsE, AV.ids, hie, hiw, hid, hio, hiq, hi1, hi2, hi3, hi4, hil])) _, ?_⟩)|(refine ⟨_, _, qa0 (k18) (by (simp [idsL, idsE, AV.ids, hie, hiw, hid, hio, hiq, hi1, hi2, hi3, hi4, hil])) _, ?_⟩)|(refine ⟨_, qa0 (k18) (by (simp [idsL, idsE, AV.ids, hie, hiw, hid, hio, hiq, hi1, hi2, hi3, hi4, hil])) _, ?_⟩)|(refine ⟨_, fun _ => qa0 (k18) (by (simp [idsL, idsE, AV.ids, hie, hiw, hid, hio, hiq, hi1, hi2, hi3, hi4, hil])) _, ?_⟩)|(refine ⟨_, _, qa0 (k31) (by (simp [idsL, idsE, AV.ids, hie, hiw, hid, hio, hiq, hi1, hi2, hi3, hi4, hil])) _, ?_⟩)|(refine ⟨_, qa0 (k31) (by (simp [idsL, idsE, AV.ids, hie, hiw, hid, hio, hiq, hi1, hi2, hi3, hi4, hil])) _, ?_⟩)|(refine ⟨_, fun _ => qa0 (k31) (by (simp [idsL, idsE, AV.ids, hie, hiw, hid, hio, hiq, hi1, hi2, hi3, hi4, hil])) _, ?_⟩)|(refine ⟨_, _, qa0 (hlv) (by (simp [idsL, idsE, AV.ids, hie, hiw, hid, hio, hiq, hi1, hi2, hi3, hi4, hil])) _, ?_⟩)|(refine ⟨_, qa0 (hlv) (by (simp [idsL, idsE, AV.ids, hie, hiw, hid, hio, hiq, hi1, hi2, hi3, hi4, hil])) _, ?_⟩)|(refine ⟨_, fun _ => qa0 (hlv) (by (simp [idsL, idsE, AV.ids, hie, hiw, hid, hio, hiq, hi1, hi2, hi3, hi4, hil])) _, ?_⟩))|simp (disch := (first|exact discB|fail)) only [push_cast, simprocAttr, b2, b7, b11, b12, hL, h256', hB, hC])
      all_goals (refine ⟨.top, ?_⟩)
      repeat' (first|refine nav ?_|(refine g0_ ?_; refine goD ?_)|(with_reducible refine gG ?_ ?_)|((with_reducible refine And.intro (fun h => ?_) (fun h => ?_)) <;> try (exfalso; omega))|(with_reducible refine andG ?_)|(first|(refine ⟨_, _, qa0 (k19) (by (simp [idsL, idsE, AV.ids, hie, hiw, hid, hio, hiq, hi1, hi2, hi3, hi4, hil])) _, ?_⟩)|(refine ⟨_, qa0 (k19) (by (simp [idsL, idsE, AV.ids, hie, hiw, hid, hio, hiq, hi1, hi2, hi3, hi4, hil])) _, ?_⟩)|(refine ⟨_, fun _ => qa0 (k19) (by (simp [idsL, idsE, AV.ids, hie, hiw, hid, hio, hiq, hi1, hi2, hi3, hi4, hil])) _, ?_⟩)|(refine ⟨_, _, qa0 (k18) (by (simp [idsL, idsE, AV.ids, hie, hiw, hid, hio, hiq, hi1, hi2, hi3, hi4, hil])) _, ?_⟩)|(refine ⟨_, qa0 (k18) (by (simp [idsL, idsE, AV.ids, hie, hiw, hid, hio, hiq, hi1, hi2, hi3, hi4, hil])) _, ?_⟩)|(refine ⟨_, fun _ => qa0 (k18) (by (simp [idsL, idsE, AV.ids, hie, hiw, hid, hio, hiq, hi1, hi2, hi3, hi4, hil])) _, ?_⟩)|(refine ⟨_, _, qa0 (k31) (by (simp [idsL, idsE, AV.ids, hie, hiw, hid, hio, hiq, hi1, hi2, hi3, hi4, hil])) _, ?_⟩)|(refine ⟨_, qa0 (k31) (by (simp [idsL, idsE, AV.ids, hie, hiw, hid, hio, hiq, hi1, hi2, hi3, hi4, hil])) _, ?_⟩)|(refine ⟨_, fun _ => qa0 (k31) (by (simp [idsL, idsE, AV.ids, hie, hiw, hid, hio, hiq, hi1, hi2, hi3, hi4, hil])) _, ?_⟩)|(refine ⟨_, _, qa0 (hlv) (by (simp [idsL, idsE, AV.ids, hie, hiw, hid, hio, hiq, hi1, hi2, hi3, hi4, hil])) _, ?_⟩)|(refine ⟨_, qa0 (hlv) (by (simp [idsL, idsE, AV.ids, hie, hiw, hid, hio, hiq, hi1, hi2, hi3, hi4, hil])) _, ?_⟩)|(refine ⟨_, fun _ => qa0 (hlv) (by (simp [idsL, idsE, AV.ids, hie, hiw, hid, hio, hiq, hi1, hi2, hi3, hi4, hil])) _, ?_⟩))|simp (disch := (first|exact discB|fail)) only [push_cast, simprocAttr, b2, b7, b11, b12, hL, h256', hB, hC])
      all_goals (refine ⟨.top, ?_⟩)
      repeat' (first|refine nav ?_|(refine g0_ ?_; refine goD ?_)|(with_reducible refine gG ?_ ?_)|((with_reducible refine And.intro (fun h => ?_) (fun h => ?_)) <;> try (exfalso; omega))|(with_reducible refine andG ?_)|(first|(refine ⟨_, _, qa0 (k19) (by (simp [idsL, idsE, AV.ids, hie, hiw, hid, hio, hiq, hi1, hi2, hi3, hi4, hil])) _, ?_⟩)|(refine ⟨_, qa0 (k19) (by (simp [idsL, idsE, AV.ids, hie, hiw, hid, hio, hiq, hi1, hi2, hi3, hi4, hil])) _, ?_⟩)|(refine ⟨_, fun _ => qa0 (k19) (by (simp [idsL, idsE, AV.ids, hie, hiw, hid, hio, hiq, hi1, hi2, hi3, hi4, hil])) _, ?_⟩)|(refine ⟨_, _, qa0 (k18) (by (simp [idsL, idsE, AV.ids, hie, hiw, hid, hio, hiq, hi1, hi2, hi3, hi4, hil])) _, ?_⟩)|(refine ⟨_, qa0 (k18) (by (simp [idsL, idsE, AV.ids, hie, hiw, hid, hio, hiq, hi1, hi2, hi3, hi4, hil])) _, ?_⟩)|(refine ⟨_, fun _ => qa0 (k18) (by (simp [idsL, idsE, AV.ids, hie, hiw, hid, hio, hiq, hi1, hi2, hi3, hi4, hil])) _, ?_⟩)|(refine ⟨_, _, qa0 (k31) (by (simp [idsL, idsE, AV.ids, hie, hiw, hid, hio, hiq, hi1, hi2, hi3, hi4, hil])) _, ?_⟩)|(refine ⟨_, qa0 (k31) (by (simp [idsL, idsE, AV.ids, hie, hiw, hid, hio, hiq, hi1, hi2, hi3, hi4, hil])) _, ?_⟩)|(refine ⟨_, fun _ => qa0 (k31) (by (simp [idsL, idsE, AV.ids, hie, hiw, hid, hio, hiq, hi1, hi2, hi3, hi4, hil])) _, ?_⟩)|(refine ⟨_, _, qa0 (hlv) (by (simp [idsL, idsE, AV.ids, hie, hiw, hid, hio, hiq, hi1, hi2, hi3, hi4, hil])) _, ?_⟩)|(refine ⟨_, qa0 (hlv) (by (simp [idsL, idsE, AV.ids, hie, hiw, hid, hio, hiq, hi1, hi2, hi3, hi4, hil])) _, ?_⟩)|(refine ⟨_, fun _ => qa0 (hlv) (by (simp [idsL, idsE, AV.ids, hie, hiw, hid, hio, hiq, hi1, hi2, hi3, hi4, hil])) _, ?_⟩))|simp (disch := (first|exact discB|fail)) only [push_cast, simprocAttr, b2, b7, b11, b12, hL, h256', hB, hC])
end Go.Proofs
