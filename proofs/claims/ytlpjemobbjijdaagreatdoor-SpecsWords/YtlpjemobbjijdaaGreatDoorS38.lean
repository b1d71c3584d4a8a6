import Derived.Test.YtlpjemobbjijdaaGreatDoorS37
import Derived.Test.YtlpjemobbjijdaaGreatDoorS27
namespace Go.Proofs
open Go Go.V
set_option linter.unusedVariables false
set_option linter.unusedSimpArgs false
set_option maxHeartbeats 0
set_option maxRecDepth 100000
theorem zdj9 : (∀ q, q < 3 → nmB (nmsN.getD q []) = true) ∧ (∀ q, q < 3 → (∀ s ∈ insN.getD q [], nmB s = true) ∧ (insN.getD q []).Nodup) ∧ (∀ q, q < 3 → (∀ s ∈ outsN.getD q [], nmB s = true) ∧ (outsN.getD q []).Nodup) ∧ (∀ q, q < 3 → (∀ s ∈ stsN.getD q [], nmB s = true) ∧ (stsN.getD q []).Nodup) := by decide +kernel
theorem zbh9 {l : List Bs} {k : Nat} (h : l.Nodup) : (l.take k).Nodup := h.sublist (List.take_sublist k l)
theorem ND.v (x : ND) : x.G.V := by
 have q0 : x.nm % 3 < 3 := Nat.mod_lt _ (by decide)
 have q1 : x.nm / 3 % 3 < 3 := Nat.mod_lt _ (by decide)
 have q2 : x.nm / 9 % 3 < 3 := Nat.mod_lt _ (by decide)
 have q3 : x.nm / 27 % 3 < 3 := Nat.mod_lt _ (by decide)
 obtain ⟨a0, a1, a2, a3⟩ := zdj9
 have bn := x.m.bn
 have bI := x.m.bI
 have bO := x.m.bO
 have l1 := (gI q1).2
 have l2 := (gO q2).2
 have l3 := (gS q3).2
 refine ⟨x.m.ok, ?_, ?_, ?_, fun l hl s hs => ?_, fun l hl => ?_⟩
 ·show (((insN.getD (x.nm / 3 % 3) []).take x.m.I).length : Int) = _
  rw [List.length_take, l1]; show ((min x.m.I 3 : Nat) : Int) = (x.m.I : Int); omega
 ·show (((outsN.getD (x.nm / 9 % 3) []).take x.m.O).length : Int) = _
  rw [List.length_take, l2]; show ((min x.m.O 3 : Nat) : Int) = (x.m.O : Int); omega
 ·show ((stsN.getD (x.nm / 27 % 3) []).take x.m.n).length = (x.m.rows x.m.n).length
  rw [List.length_take, l3, MD.rows_len]; omega
 ·simp only [GS.lists, List.mem_cons, List.not_mem_nil, or_false] at hl
  rcases hl with rfl|rfl|rfl|rfl
  ·rw [List.mem_singleton] at hs; rw [hs]; exact a0 _ q0
  ·exact (a1 _ q1).1 s (List.mem_of_mem_take hs)
  ·exact (a2 _ q2).1 s (List.mem_of_mem_take hs)
  ·exact (a3 _ q3).1 s (List.mem_of_mem_take hs)
 ·simp only [GS.lists, List.mem_cons, List.not_mem_nil, or_false] at hl
  rcases hl with rfl|rfl|rfl|rfl
  ·simp
  ·exact zbh9 (a1 _ q1).2
  ·exact zbh9 (a2 _ q2).2
  ·exact zbh9 (a3 _ q3).2
theorem v_ok {x : GS} (h : x.V) (hr : x.zr = 1) (hi : x.zi = 1) (ho : x.zo = 1) (hs : x.zs = 1) : x.Ok := by
 obtain ⟨l1, l2, l3, l4, l5, l6⟩ := h.cnts
 have hm := kj0 h.m
 refine ⟨.inr hr, .inr hi, .inr ho, .inr hs, by omega, fun j hj => ?_, by omega, by omega, by omega, fun l hl s hs => ?_⟩
 ·have := hm.2.2.2.1 j hj; omega
 ·have := (zaI9 (h.nm l hl s hs)).2; omega
theorem ND.ok (x : ND) : x.G.Ok := v_ok x.v rfl rfl rfl rfl
def zW (l : List Int) : Nat := if l = [] then 0 else 1
def cW (l : List Int) : Option Nat := if l = [] then some 0 else none
theorem kcT9 (l : List Int) : l = [] ∨ zW l = 1 := by unfold zW; split; exact .inl ‹_›; exact .inr rfl
theorem zbr9 (r : List Int × Int) : vaI9 r = .tup [.sl (zW r.1) (ints r.1) (some r.1.length), .int .i64 r.2] := by
 unfold vaI9 zW
 split
 ·rename_i h; rw [h]; rfl
 ·rfl
theorem vcb9 (r : List Int × Int) : qae9 r = .tup [.sl (zW r.1) (ints r.1) (cW r.1), .int .i64 r.2] := by
 unfold qae9 zW cW
 split
 ·rename_i h; rw [h]; rfl
 ·rfl
theorem kcb9 {l : List Bs} (h : l.Nodup) {n : Nat} (hn : n < l.length) : l.idxOf l[n] = n := by
 have h1 : l.idxOf l[n] < l.length := List.idxOf_lt_length_iff.2 (List.getElem_mem hn)
 exact (List.getElem_inj h).1 (List.getElem_idxOf h1)
theorem waW9 {l : List Bs} (h : l ≠ []) (hv : ∀ s ∈ l, chkT 1 s = 0) : Lib.join l [32] ≠ [45] := fun e => by
 have h1 := vap9 32 l h fun p hp => qaU9 (hv p hp)
 rw [e] at h1
 have h2 : splitC 32 [45] = [[45]] := by decide
 rw [h2] at h1
 rw [← h1] at hv
 exact xbU9 (hv [45] (by simp))
theorem qcc9 {x : GS} (hv : x.V) {l : List Int} (hl : ∀ a ∈ l, 0 ≤ a ∧ a < x.ins.length) (hn : l.length ≤ 256) : zw0 x.ins (zA0 l x.ins) = (l, 0) := by
 obtain ⟨n1, _, _, _⟩ := hv.len
 have hnd : x.ins.Nodup := hv.nd _ (by simp [GS.lists])
 have hck : ∀ s ∈ x.ins, chkT 1 s = 0 := fun s hs => by
  have := hv.nm x.ins (by simp [GS.lists]) s hs
  unfold nmB at this
  rw [Bool.and_eq_true, decide_eq_true_eq] at this
  exact this.1
 unfold zA0
 by_cases h0 : l = []
 ·subst h0
  rw [if_pos rfl]; rfl
 ·rw [if_neg h0]
  have hm0 : l.map (nmI x.ins) ≠ [] := by simpa using h0
  have hin : ∀ a ∈ l, nmI x.ins a ∈ x.ins := fun a ha => by
   obtain ⟨q1, q2⟩ := hl a ha
   rw [nmI, if_neg (by omega)]
   exact xl0 [] (by omega)
  have hmem : ∀ s ∈ l.map (nmI x.ins), s ∈ x.ins := fun s hs => by
   obtain ⟨a, ha, rfl⟩ := List.mem_map.1 hs
   exact hin a ha
  have hsp := vap9 32 (l.map (nmI x.ins)) hm0 fun p hp => qaU9 (hck p (hmem p hp))
  have hlen := vV0 16 [32] (l.map (nmI x.ins)) fun s hs => n1 s (hmem s hs)
  rw [List.length_map] at hlen
  have h1 : ((l.map (nmI x.ins)).any fun n => !decide (chkT 1 n = 0)) = false := by
   rw [List.any_eq_false]; intro s hs; rw [decide_eq_true (hck s (hmem s hs))]; decide
  have h2 : ((l.map (nmI x.ins)).any fun n => !decide (n ∈ x.ins)) = false := by
   rw [List.any_eq_false]; intro s hs; rw [decide_eq_true (hmem s hs)]; decide
  unfold zw0
  rw [if_neg (by simp only [List.length_singleton] at hlen; omega), if_neg (waW9 hm0 fun s hs => hck s (hmem s hs)), hsp, h1, if_neg (by simp), h2, if_neg (by simp), if_neg (by rw [List.length_map]; omega)]
  congr 1
  rw [vI0, List.map_map]
  conv => rhs; rw [← List.map_id l]
  refine List.map_congr_left fun a ha => ?_
  obtain ⟨q1, q2⟩ := hl a ha
  obtain ⟨n, rfl⟩ : ∃ n : Nat, a = n := ⟨a.toNat, by omega⟩
  have hlt : n < x.ins.length := by omega
  simp only [Function.comp, id, nmI]
  rw [if_neg (by omega), Int.toNat_natCast, List.getD_eq_getElem?_getD, List.getElem?_eq_getElem hlt, Option.getD_some, kcb9 hnd hlt]
theorem law7 (x : ND) (z : Nat) (c : Option Nat) (zw : Nat) (w : List Nat) (cw : Option Nat) (s0 : Bs) (hx : x.m.Ok) (hn : x.nm < 256) (hz : x.m.es = [] ∨ z = 1) (hzw : w = [] ∨ zw = 1) (hw : ∀ n ∈ w, n < 256) (hwl : w.length ≤ 9223372036854775807) (hs : s0.length ≤ 9223372036854775807) : PC Tryz.prog G0 7 [.agg (ndC x z c), .agg [.sl zw (u8s w) cw], .str s0] (.bool true) := by
 have hie : ∀ p, idsL p (ndC x z c) = true := fun p => by simp [ndC, mdC, idsL, AV.ids]
 have hiw : ∀ p, idsE p (u8s w) = true := fun p => vcv9 p w
 by_cases hbig : 1000 < s0.length
 ·have hb' : (1000 : Int) < s0.length := by omega
  unfold ndC mdC at *
  simp only [List.cons_append, List.nil_append] at *
  refine wc0 0 76 [.tmp 6] Tryz.func7 rfl rfl rfl (by simp) ?_
  intro s ⟨a0, a1, a2, hz⟩
  simp only [Nat.zero_add, Nat.reduceAdd] at a1 a2
  clear hz
  repeat' (first|refine nav ?_|(refine g0_ ?_; refine goD ?_)|(with_reducible refine gG ?_ ?_)|((with_reducible refine And.intro (fun h => ?_) (fun h => ?_)) <;> try (exfalso; omega))|(with_reducible refine andG ?_)|fail|simp (disch := (first|exact discB|fail)) only [push_cast, simprocAttr, a0, a1, a2, hb'])
 have hb' : ¬ (1000 : Int) < s0.length := by omega
 have hv := x.v
 have hok := x.ok
 obtain ⟨l1, l2, l3, l4, l5, l6⟩ := hv.cnts
 obtain ⟨n1, _, _, _⟩ := hv.len
 have bI := x.m.bI
 have hGi : x.G.i = (x.m.I : Int) := rfl
 have hci := hv.ci
 have hWm := xcT9 (w := w) (A := x.m.I) (by omega)
 have hWl := vF0 w x.m.I
 have h0 := chkS_zero.2 hv
 have h21 := of21 x z c hx hn hz
 have h27 := qdH9 zw w cw x.m.I hzw (by omega) (by omega) hw hwl
 have h18 := qaB9 x.G hok 1 (ofW w x.m.I) none (.inr rfl) (by omega)
 have hcw : wF0 (ofW w x.m.I) x.G.i = 0 := by
  rw [wF0, if_neg (by omega), if_neg]
  rintro (q|q)
  ·omega
  ·rw [List.any_eq_true] at q
   obtain ⟨a, ha, q⟩ := q
   have := hWm a ha
   simp only [badI, Bool.or_eq_true, decide_eq_true_eq] at q
   omega
 rw [wtA, if_pos h0, if_pos hcw] at h18
 have h17 := kaA9 x.G hok (zA0 (ofW w x.m.I) x.G.ins) h0
 rw [qcc9 hv (fun a ha => by have := hWm a ha; omega) (by omega), zbr9] at h17
 have h28 : PC Tryz.prog G0 28 [.sl 1 (ints (ofW w x.m.I)) none, .sl x.G.zi (strs x.G.ins) x.G.ci] (.str (zA0 (ofW w x.m.I) x.G.ins)) := vcT9 1 (ofW w x.m.I) none x.G.ins x.G.ci (.inr rfl) (by omega) (by omega) (fun a ha => by have := hWm a ha; omega) n1 (fun s hs => by
  have := (zaI9 (hv.nm x.G.ins (by simp [GS.lists]) s hs)).1
  intro e; rw [e] at this; simp at this)
 have h20 := zaB9 (zW (ofW w x.m.I)) (ofW w x.m.I) (ofW w x.m.I).length 0 1 (ofW w x.m.I) none 0 (kcT9 _) (.inr rfl) (by omega) (by omega)
 have h17b := kaA9 x.G hok s0 h0
 have h29 := qdj9 x.G hok hv s0 (by omega)
 rw [zbr9] at h17b
 rw [vcb9] at h29
 have hml : (zw0 x.G.ins s0).1.length ≤ 1000000 := by
  unfold zw0
  have := (kab9 32 s0).1
  split
  ·simp
  split
  ·simp
  split
  ·simp
  split
  ·simp
  split
  ·simp
  ·rw [kar9]; omega
 have h20b := zaB9 (zW (zw0 x.G.ins s0).1) (zw0 x.G.ins s0).1 (zw0 x.G.ins s0).1.length (zw0 x.G.ins s0).2 (zW (zw0 x.G.ins s0).1) (zw0 x.G.ins s0).1 (cW (zw0 x.G.ins s0).1) (zw0 x.G.ins s0).2 (kcT9 _) (kcT9 _) hml hml
 have hlv := wcS9
 simp only [decide_true, Bool.and_self] at h20 h20b
 have hid := fun p => wV0 p x.G
 have hio : ∀ p, idsE p (ints (ofW w x.m.I)) = true := fun p => vj0 p _
 have hiq : ∀ p, idsE p (ints (zw0 x.G.ins s0).1) = true := fun p => vj0 p _
 have hi2 : ∀ p, idsE p (strs x.G.ins) = true := fun p => wa0 p _
 have hi3 : ∀ p, idsE p (strs x.G.outs) = true := fun p => wa0 p _
 have hi4 : ∀ p, idsE p (strs x.G.sts) = true := fun p => wa0 p _
 have hi1 : ∀ p, idsE p (qf0 x.G.rows) = true := fun p => qg0 p _
 unfold GS.A at *
 rw [hGi] at *
 generalize zA0 (ofW w x.m.I) x.G.ins = T at *
 generalize zw0 x.G.ins s0 = R at *
 obtain ⟨R1, R2⟩ := R
 simp only at h17b h29 h20b hiq
 generalize x.G = g at *
 generalize ofW w x.m.I = O at *
 generalize x.m.I = I at *
 unfold ndC mdC at *
 simp only [List.cons_append, List.nil_append] at *
 refine wc0 0 76 [.tmp 6] Tryz.func7 rfl rfl rfl (by simp) ?_
 intro s ⟨a0, a1, a2, hz⟩
 simp only [Nat.zero_add, Nat.reduceAdd] at a1 a2
 clear hz
 repeat' (first|refine nav ?_|(refine g0_ ?_; refine goD ?_)|(with_reducible refine gG ?_ ?_)|((with_reducible refine And.intro (fun h => ?_) (fun h => ?_)) <;> try (exfalso; omega))|(with_reducible refine andG ?_)|(first|(refine ⟨_, _, qa0 (h21) (by (simp [idsL, idsE, AV.ids, hie, hiw, hid, hio, hiq, hi1, hi2, hi3, hi4])) _, ?_⟩)|(refine ⟨_, qa0 (h21) (by (simp [idsL, idsE, AV.ids, hie, hiw, hid, hio, hiq, hi1, hi2, hi3, hi4])) _, ?_⟩)|(refine ⟨_, fun _ => qa0 (h21) (by (simp [idsL, idsE, AV.ids, hie, hiw, hid, hio, hiq, hi1, hi2, hi3, hi4])) _, ?_⟩)|(refine ⟨_, _, qa0 (h27) (by (simp [idsL, idsE, AV.ids, hie, hiw, hid, hio, hiq, hi1, hi2, hi3, hi4])) _, ?_⟩)|(refine ⟨_, qa0 (h27) (by (simp [idsL, idsE, AV.ids, hie, hiw, hid, hio, hiq, hi1, hi2, hi3, hi4])) _, ?_⟩)|(refine ⟨_, fun _ => qa0 (h27) (by (simp [idsL, idsE, AV.ids, hie, hiw, hid, hio, hiq, hi1, hi2, hi3, hi4])) _, ?_⟩)|(refine ⟨_, _, qa0 (h18) (by (simp [idsL, idsE, AV.ids, hie, hiw, hid, hio, hiq, hi1, hi2, hi3, hi4])) _, ?_⟩)|(refine ⟨_, qa0 (h18) (by (simp [idsL, idsE, AV.ids, hie, hiw, hid, hio, hiq, hi1, hi2, hi3, hi4])) _, ?_⟩)|(refine ⟨_, fun _ => qa0 (h18) (by (simp [idsL, idsE, AV.ids, hie, hiw, hid, hio, hiq, hi1, hi2, hi3, hi4])) _, ?_⟩)|(refine ⟨_, _, qa0 (h17) (by (simp [idsL, idsE, AV.ids, hie, hiw, hid, hio, hiq, hi1, hi2, hi3, hi4])) _, ?_⟩)|(refine ⟨_, qa0 (h17) (by (simp [idsL, idsE, AV.ids, hie, hiw, hid, hio, hiq, hi1, hi2, hi3, hi4])) _, ?_⟩)|(refine ⟨_, fun _ => qa0 (h17) (by (simp [idsL, idsE, AV.ids, hie, hiw, hid, hio, hiq, hi1, hi2, hi3, hi4])) _, ?_⟩)|(refine ⟨_, _, qa0 (h28) (by (simp [idsL, idsE, AV.ids, hie, hiw, hid, hio, hiq, hi1, hi2, hi3, hi4])) _, ?_⟩)|(refine ⟨_, qa0 (h28) (by (simp [idsL, idsE, AV.ids, hie, hiw, hid, hio, hiq, hi1, hi2, hi3, hi4])) _, ?_⟩)|(refine ⟨_, fun _ => qa0 (h28) (by (simp [idsL, idsE, AV.ids, hie, hiw, hid, hio, hiq, hi1, hi2, hi3, hi4])) _, ?_⟩)|(refine ⟨_, _, qa0 (h20) (by (simp [idsL, idsE, AV.ids, hie, hiw, hid, hio, hiq, hi1, hi2, hi3, hi4])) _, ?_⟩)|(refine ⟨_, qa0 (h20) (by (simp [idsL, idsE, AV.ids, hie, hiw, hid, hio, hiq, hi1, hi2, hi3, hi4])) _, ?_⟩)|(refine ⟨_, fun _ => qa0 (h20) (by (simp [idsL, idsE, AV.ids, hie, hiw, hid, hio, hiq, hi1, hi2, hi3, hi4])) _, ?_⟩)|(refine ⟨_, _, qa0 (h17b) (by (simp [idsL, idsE, AV.ids, hie, hiw, hid, hio, hiq, hi1, hi2, hi3, hi4])) _, ?_⟩)|(refine ⟨_, qa0 (h17b) (by (simp [idsL, idsE, AV.ids, hie, hiw, hid, hio, hiq, hi1, hi2, hi3, hi4])) _, ?_⟩)|(refine ⟨_, fun _ => qa0 (h17b) (by (simp [idsL, idsE, AV.ids, hie, hiw, hid, hio, hiq, hi1, hi2, hi3, hi4])) _, ?_⟩)|(refine ⟨_, _, qa0 (h29) (by (simp [idsL, idsE, AV.ids, hie, hiw, hid, hio, hiq, hi1, hi2, hi3, hi4])) _, ?_⟩)|(refine ⟨_, qa0 (h29) (by (simp [idsL, idsE, AV.ids, hie, hiw, hid, hio, hiq, hi1, hi2, hi3, hi4])) _, ?_⟩)|(refine ⟨_, fun _ => qa0 (h29) (by (simp [idsL, idsE, AV.ids, hie, hiw, hid, hio, hiq, hi1, hi2, hi3, hi4])) _, ?_⟩)|(refine ⟨_, _, qa0 (h20b) (by (simp [idsL, idsE, AV.ids, hie, hiw, hid, hio, hiq, hi1, hi2, hi3, hi4])) _, ?_⟩)|(refine ⟨_, qa0 (h20b) (by (simp [idsL, idsE, AV.ids, hie, hiw, hid, hio, hiq, hi1, hi2, hi3, hi4])) _, ?_⟩)|(refine ⟨_, fun _ => qa0 (h20b) (by (simp [idsL, idsE, AV.ids, hie, hiw, hid, hio, hiq, hi1, hi2, hi3, hi4])) _, ?_⟩)|(refine ⟨_, _, qa0 (hlv) (by (simp [idsL, idsE, AV.ids, hie, hiw, hid, hio, hiq, hi1, hi2, hi3, hi4])) _, ?_⟩)|(refine ⟨_, qa0 (hlv) (by (simp [idsL, idsE, AV.ids, hie, hiw, hid, hio, hiq, hi1, hi2, hi3, hi4])) _, ?_⟩)|(refine ⟨_, fun _ => qa0 (hlv) (by (simp [idsL, idsE, AV.ids, hie, hiw, hid, hio, hiq, hi1, hi2, hi3, hi4])) _, ?_⟩))|simp (disch := (first|exact discB|fail)) only [push_cast, simprocAttr, a0, a1, a2, hb'])
 all_goals trace_state
 all_goals sorry
end Go.Proofs
