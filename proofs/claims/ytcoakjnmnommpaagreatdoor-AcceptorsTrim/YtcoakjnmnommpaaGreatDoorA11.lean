import Derived.Test.YtcoakjnmnommpaaGreatDoorA1
import Derived.Test.YtcoakjnmnommpaaGreatDoorA9
import Derived.Test.YtcoakjnmnommpaaGreatDoorA7
import Derived.Test.YtcoakjnmnommpaaGreatDoorA4
namespace Go.Proofs
open Go Go.V
set_option linter.unusedVariables false
set_option linter.unusedSimpArgs false
set_option maxHeartbeats 0
def badW (n x : Int) : Bool := decide (x < 0) || decide (n ≤ x)
set_option maxRecDepth 100000 in
theorem vdx9 (x n : Int) (b : Nat) (H : List Blk) (hb : H[b]? = some (.row 1 3 [[.int .i64 n]])) : qe0 Tryz.prog G0 69 [.int .i64 x, .ptr b 0 0 1] H (.bool (badW n x)) H := by
 by_cases h1 : x < 0
 ·rw [show badW n x = true by simp [badW, h1]]
  refine xI0 11 [.tmp 3] Tryz.func69 rfl rfl rfl (by simp) ?_
  intro s ⟨a0, a1, hz⟩
  simp only [Nat.zero_add, Nat.reduceAdd] at a1
  clear hz
  repeat' (first|refine nav ?_|(refine g0_ ?_; refine goD ?_)|(with_reducible refine gG ?_ ?_)|((with_reducible refine And.intro (fun h => ?_) (fun h => ?_)) <;> try (exfalso; omega))|(with_reducible refine andG ?_)|fail|simp (disch := (first|exact za0|fail)) only [push_cast, simprocAttr, a0, a1, hb, h1])
 ·by_cases h2 : n ≤ x
  ·rw [show badW n x = true by simp [badW, h2]]
   refine xI0 11 [.tmp 3] Tryz.func69 rfl rfl rfl (by simp) ?_
   intro s ⟨a0, a1, hz⟩
   simp only [Nat.zero_add, Nat.reduceAdd] at a1
   clear hz
   repeat' (first|refine nav ?_|(refine g0_ ?_; refine goD ?_)|(with_reducible refine gG ?_ ?_)|((with_reducible refine And.intro (fun h => ?_) (fun h => ?_)) <;> try (exfalso; omega))|(with_reducible refine andG ?_)|fail|simp (disch := (first|exact za0|fail)) only [push_cast, simprocAttr, a0, a1, hb, h1, h2])
  ·rw [show badW n x = false by simp [badW, h1, h2]]
   refine xI0 11 [.tmp 3] Tryz.func69 rfl rfl rfl (by simp) ?_
   intro s ⟨a0, a1, hz⟩
   simp only [Nat.zero_add, Nat.reduceAdd] at a1
   clear hz
   repeat' (first|refine nav ?_|(refine g0_ ?_; refine goD ?_)|(with_reducible refine gG ?_ ?_)|((with_reducible refine And.intro (fun h => ?_) (fun h => ?_)) <;> try (exfalso; omega))|(with_reducible refine andG ?_)|fail|simp (disch := (first|exact za0|fail)) only [push_cast, simprocAttr, a0, a1, hb, h1, h2])
def idxM (p : Int → Bool) (xs : List Int) : Int := match xs.findIdx? p with|some k => k|none => -1
theorem vcV9 {p : Int → Bool} {xs : List Int} {k : Nat} (hk : k < xs.length) (h : p (xs.getD k 0) = true) (hm : ∀ j, j < k → p (xs.getD j 0) = false) : idxM p xs = k := by
 have : xs.findIdx? p = some k := by
  rw [List.findIdx?_eq_some_iff_getElem]
  refine ⟨hk, ?_, fun j hj => ?_⟩
  ·rw [List.getD_eq_getElem?_getD, List.getElem?_eq_getElem hk] at h; exact h
  ·have := hm j hj
   rw [List.getD_eq_getElem?_getD, List.getElem?_eq_getElem (by omega)] at this
   simpa using this
 rw [idxM, this]
theorem zcx9 {p : Int → Bool} {xs : List Int} (hm : ∀ j, j < xs.length → p (xs.getD j 0) = false) : idxM p xs = -1 := by
 have : xs.findIdx? p = none := by
  rw [List.findIdx?_eq_none_iff]
  intro x hx
  obtain ⟨j, hj, rfl⟩ := List.getElem_of_mem hx
  have := hm j hj
  rw [List.getD_eq_getElem?_getD, List.getElem?_eq_getElem hj] at this
  exact this
 rw [idxM, this]
theorem kcV9 (p : Int → Bool) (xs : List Int) : decide (0 ≤ idxM p xs) = xs.any p := by
 unfold idxM
 cases h : xs.findIdx? p with
 | none =>
  rw [List.findIdx?_eq_none_iff] at h
  have : xs.any p = false := by rw [List.any_eq_false]; intro x hx; rw [h x hx]; decide
  rw [this]; rfl
 | some k =>
  obtain ⟨hk, h1, _⟩ := List.findIdx?_eq_some_iff_getElem.1 h
  have : xs.any p = true := by rw [List.any_eq_true]; exact ⟨_, List.getElem_mem hk, h1⟩
  rw [this]; simp
set_option maxRecDepth 100000 in
theorem zbz9 (p : Int → Bool) (g : FuncId) (cap : List AV) (z : Nat) (xs : List Int) (c : Option Nat) (H : List Blk) (hent : wb0 Tryz.prog g = true) (hp : ∀ x, qe0 Tryz.prog G0 g (.int .i64 x :: cap) H (.bool (p x)) H) (hz : xs = [] ∨ z = 1) (hx : xs.length ≤ 9223372036854775807) :
  qe0 Tryz.prog G0 77 [.sl z (ints xs) c, .fn g cap] H (.int .i64 (idxM p xs)) H := by
 have hil := ka0 xs
 refine xI0 19 [.tmp 4] Tryz.func77 rfl rfl rfl (by simp) ?_
 intro s ⟨a0, a1, hz⟩
 simp only [Nat.zero_add, Nat.reduceAdd] at a1
 clear hz
 repeat' (first|refine nav ?_|(refine g0_ ?_; refine goD ?_)|(with_reducible refine gG ?_ ?_)|((with_reducible refine And.intro (fun h => ?_) (fun h => ?_)) <;> try (exfalso; omega))|(with_reducible refine andG ?_)|fail|simp (disch := (first|exact za0|fail)) only [push_cast, simprocAttr, a0, a1, hil, hent])
 refine go_loop rfl (fun mz s' H' => ∃ k : Nat, k ≤ xs.length ∧ mz = xs.length - k ∧ H' = H ∧ s' 0 = .sl z (ints xs) c ∧ s' 1 = .fn g cap ∧ s' 7 = .int .i64 xs.length ∧ s' 8 = .int .i64 k ∧ (∀ j, j < k → p (xs.getD j 0) = false)) (m := xs.length) (by first|exact xb0|fail) (Weak.refl _ _) ⟨0, by omega, by omega, rfl, ?_⟩ ?_
 ·refine ⟨?_, ?_, ?_, ?_, fun j hj => by omega⟩
  all_goals simp (disch := (first|exact za0|fail)) only [push_cast, simprocAttr, a0, a1, hil, hent]
 ·rintro mz s' H' ⟨k, hk, rfl, rfl, b0, b1, b7, b8, ik⟩
  rcases Nat.lt_or_ge k xs.length with hlt|hge
  ·obtain rfl := hz.resolve_left (by intro h; rw [h] at hlt; simp at hlt)
   have e1 := kc0 xs k hlt
   have hhit := fun h => vcV9 (p := p) hlt h ik
   have hsn := kai9 (P := fun j => p (xs.getD j 0) = false) (k := k) ik
   generalize xs.getD k 0 = x at *
   have hpx := hp x
   cases hq : p x with
   | true =>
    rw [hq] at hpx
    rw [hhit hq]
    repeat' (first|refine nav ?_|(refine g0_ ?_; refine goD ?_)|(with_reducible refine gG ?_ ?_)|((with_reducible refine And.intro (fun h => ?_) (fun h => ?_)) <;> try (exfalso; omega))|(with_reducible refine andG ?_)|(first|(refine ⟨_, _, hpx, ?_⟩)|(refine ⟨_, hpx, ?_⟩)|(refine ⟨_, fun _ => hpx, ?_⟩))|simp (disch := (first|exact za0|fail)) only [push_cast, simprocAttr, b0, b1, b7, b8, e1, hil, hent])
   | false =>
    rw [hq] at hpx
    have hsn2 := hsn hq
    repeat' (first|refine nav ?_|(refine g0_ ?_; refine goD ?_)|(with_reducible refine gG ?_ ?_)|((with_reducible refine And.intro (fun h => ?_) (fun h => ?_)) <;> try (exfalso; omega))|(with_reducible refine andG ?_)|(first|(refine ⟨_, _, hpx, ?_⟩)|(refine ⟨_, hpx, ?_⟩)|(refine ⟨_, fun _ => hpx, ?_⟩))|simp (disch := (first|exact za0|fail)) only [push_cast, simprocAttr, b0, b1, b7, b8, e1, hil, hent])
    refine xa0 (xs.length - (k + 1)) (by omega) (by first|exact xb0|fail) ⟨k + 1, by omega, rfl, rfl, ?_, ?_, ?_, ?_, hsn2⟩
    all_goals simp (disch := (first|exact za0|fail)) only [push_cast, simprocAttr, b0, b1, b7, b8, e1, hil, hent]
  ·obtain rfl : k = xs.length := by omega
   rw [zcx9 ik]
   repeat' (first|refine nav ?_|(refine g0_ ?_; refine goD ?_)|(with_reducible refine gG ?_ ?_)|((with_reducible refine And.intro (fun h => ?_) (fun h => ?_)) <;> try (exfalso; omega))|(with_reducible refine andG ?_)|fail|simp (disch := (first|exact za0|fail)) only [push_cast, simprocAttr, b0, b1, b7, b8, hil, hent])
set_option maxRecDepth 100000 in
theorem xcb9 (p : Int → Bool) (g : FuncId) (cap : List AV) (z : Nat) (xs : List Int) (c : Option Nat) (H : List Blk) (hent : wb0 Tryz.prog g = true) (hp : ∀ x, qe0 Tryz.prog G0 g (.int .i64 x :: cap) H (.bool (p x)) H) (hz : xs = [] ∨ z = 1) (hx : xs.length ≤ 9223372036854775807) :
  qe0 Tryz.prog G0 68 [.sl z (ints xs) c, .fn g cap] H (.bool (xs.any p)) H := by
 have h1 := zbz9 p g cap z xs c H hent hp hz hx
 have h2 := kcV9 p xs
 generalize idxM p xs = d at *
 generalize ints xs = IX at *
 rw [← h2]
 refine xI0 9 [.tmp 4] Tryz.func68 rfl rfl rfl (by simp) ?_
 intro s ⟨a0, a1, hz⟩
 simp only [Nat.zero_add, Nat.reduceAdd] at a1
 clear hz
 repeat' (first|refine nav ?_|(refine g0_ ?_; refine goD ?_)|(with_reducible refine gG ?_ ?_)|((with_reducible refine And.intro (fun h => ?_) (fun h => ?_)) <;> try (exfalso; omega))|(with_reducible refine andG ?_)|(first|(refine ⟨_, _, h1, ?_⟩)|(refine ⟨_, h1, ?_⟩)|(refine ⟨_, fun _ => h1, ?_⟩))|simp (disch := (first|exact za0|fail)) only [push_cast, simprocAttr, a0, a1, hent])
def kG0 (sym : Int) (w : List Int) : Int := if 16 < sym ∨ 256 < w.length then 3 else if sym < 1 ∨ w.any (badW sym) = true then 1 else 0
set_option maxRecDepth 100000 in
theorem kdx9 (z : Nat) (w : List Int) (c : Option Nat) (sym : Int) (hz : w = [] ∨ z = 1) (hw : w.length ≤ 9223372036854775807) : PC Tryz.prog G0 46 [.sl z (ints w) c, .int .i64 sym] (.int .i64 (kG0 sym w)) := by
 have hil := ka0 w
 have hcf := xcb9 (badW sym) 69 [.ptr 0 0 0 1] z w c [.row 1 3 [[.int .i64 sym]]] en69 (fun x => vdx9 x sym 0 _ rfl) hz hw
 unfold kG0
 generalize ints w = IX at *
 generalize w.any (badW sym) = an at *
 by_cases h1 : 16 < sym
 ·rw [if_pos (.inl h1)]
  refine vd0 0 19 [.tmp 4] Tryz.func46 rfl rfl rfl (by simp) ?_
  intro s ⟨a0, a1, hz⟩
  simp only [Nat.zero_add, Nat.reduceAdd] at a1
  clear hz
  repeat' (first|refine nav ?_|(refine g0_ ?_; refine goD ?_)|(with_reducible refine gG ?_ ?_)|((with_reducible refine And.intro (fun h => ?_) (fun h => ?_)) <;> try (exfalso; omega))|(with_reducible refine andG ?_)|fail|simp (disch := (first|exact za0|fail)) only [push_cast, simprocAttr, a0, a1, hil, h1])
 ·by_cases h2 : 256 < w.length
  ·rw [if_pos (.inr h2)]
   have h2' : (256 : Int) < w.length := by omega
   refine vd0 0 19 [.tmp 4] Tryz.func46 rfl rfl rfl (by simp) ?_
   intro s ⟨a0, a1, hz⟩
   simp only [Nat.zero_add, Nat.reduceAdd] at a1
   clear hz
   repeat' (first|refine nav ?_|(refine g0_ ?_; refine goD ?_)|(with_reducible refine gG ?_ ?_)|((with_reducible refine And.intro (fun h => ?_) (fun h => ?_)) <;> try (exfalso; omega))|(with_reducible refine andG ?_)|fail|simp (disch := (first|exact za0|fail)) only [push_cast, simprocAttr, a0, a1, hil, h1, h2'])
  ·rw [if_neg (by omega)]
   have h2' : ¬ (256 : Int) < w.length := by omega
   by_cases h3 : sym < 1
   ·rw [if_pos (.inl h3)]
    refine vd0 0 19 [.tmp 4] Tryz.func46 rfl rfl rfl (by simp) ?_
    intro s ⟨a0, a1, hz⟩
    simp only [Nat.zero_add, Nat.reduceAdd] at a1
    clear hz
    repeat' (first|refine nav ?_|(refine g0_ ?_; refine goD ?_)|(with_reducible refine gG ?_ ?_)|((with_reducible refine And.intro (fun h => ?_) (fun h => ?_)) <;> try (exfalso; omega))|(with_reducible refine andG ?_)|(first|(refine ⟨AV.bool true, ?_⟩; refine xbE9 ?_))|simp (disch := (first|exact za0|fail)) only [push_cast, simprocAttr, a0, a1, hil, h1, h2', h3])
   ·cases an with
    | true =>
     rw [if_pos (.inr rfl)]
     refine vd0 0 19 [.tmp 4] Tryz.func46 rfl rfl rfl (by simp) ?_
     intro s ⟨a0, a1, hz⟩
     simp only [Nat.zero_add, Nat.reduceAdd] at a1
     clear hz
     repeat' (first|refine nav ?_|(refine g0_ ?_; refine goD ?_)|(with_reducible refine gG ?_ ?_)|((with_reducible refine And.intro (fun h => ?_) (fun h => ?_)) <;> try (exfalso; omega))|(with_reducible refine andG ?_)|(first|(refine ⟨_, _, hcf, ?_⟩)|(refine ⟨_, hcf, ?_⟩)|(refine ⟨_, fun _ => hcf, ?_⟩))|simp (disch := (first|exact za0|fail)) only [push_cast, simprocAttr, a0, a1, hil, h1, h2', h3])
    | false =>
     rw [if_neg (by simp; omega)]
     refine vd0 0 19 [.tmp 4] Tryz.func46 rfl rfl rfl (by simp) ?_
     intro s ⟨a0, a1, hz⟩
     simp only [Nat.zero_add, Nat.reduceAdd] at a1
     clear hz
     repeat' (first|refine nav ?_|(refine g0_ ?_; refine goD ?_)|(with_reducible refine gG ?_ ?_)|((with_reducible refine And.intro (fun h => ?_) (fun h => ?_)) <;> try (exfalso; omega))|(with_reducible refine andG ?_)|(first|(refine ⟨_, _, hcf, ?_⟩)|(refine ⟨_, hcf, ?_⟩)|(refine ⟨_, fun _ => hcf, ?_⟩))|simp (disch := (first|exact za0|fail)) only [push_cast, simprocAttr, a0, a1, hil, h1, h2', h3])
end Go.Proofs
namespace Go.Proofs
open Go Go.V
set_option linter.unusedVariables false
set_option linter.unusedSimpArgs false
set_option maxHeartbeats 0
def runP (rows : List (List (List Int))) (p : Nat → Bool) (w : List Nat) : Nat → Bool := w.foldl (vbl9 rows) p
theorem xcx9 {A : Nat} {rows : List (List (List Int))} {st ac : List Int} (h : OkNv A rows st ac) : ∀ (w : List Nat) {p : Nat → Bool} {S : List Nat}, SetIs rows.length p S → (∀ a ∈ w, a < A) → SetIs rows.length (runP rows p w) (runX (stepN (nfOf rows st ac)) S w)
 | [], p, S, hp, _ => hp
 | a :: w, p, S, hp, hw => xcx9 h w (wbJ9 h hp (hw a List.mem_cons_self)) fun b hb => hw b (List.mem_cons_of_mem _ hb)
theorem wcx9 (rows : List (List (List Int))) (p : Nat → Bool) (w : List Nat) (a : Nat) : runP rows p (w ++ [a]) = vbl9 rows (runP rows p w) a := by simp [runP]
structure SizeN (zr : Nat) (l : List RC) (zs : Nat) (st : List Int) (za : Nat) (ac : List Int) : Prop where
 zl : l = [] ∨ zr = 1
 zst : st = [] ∨ zs = 1
 zac : ac = [] ∨ za = 1
 bl : l.length ≤ 9223372036854775807
 bst : st.length ≤ 9223372036854775807
 bac : ac.length ≤ 9223372036854775807
 br : ∀ s, s < l.length → (l.getD s ([], none)).1.length ≤ 9223372036854775807
 bi : ∀ s a, s < l.length → a < (l.getD s ([], none)).1.length → ((l.getD s ([], none)).1.getD a ([], none)).1.length ≤ 9223372036854775807
theorem SizeN.check {sym : Int} {zr : Nat} {l : List RC} {c : Option Nat} {zs : Nat} {st : List Int} {cs : Option Nat} {za : Nat} {ac : List Int} {ca : Option Nat} (h : SizeN zr l zs st za ac) : PC Tryz.prog G0 20 [nA sym zr l c zs st cs za ac ca] (.int .i64 (zs0 sym (rowsV l) st ac)) :=
 xca9 sym zr l c zs st cs za ac ca h.zl h.zst h.zac h.bl h.bst h.bac h.br h.bi
theorem OkNv.row {A : Nat} {l : List RC} {st ac : List Int} (h : OkNv A (rowsV l) st ac) {s : Nat} (hs : s < l.length) : (l.getD s ([], none)).1.length = A := by
 have := h.len s (by rw [qb0]; exact hs)
 rw [xw0 l s hs, wac9] at this
 exact this
theorem OkNv.lst {A : Nat} {l : List RC} {st ac : List Int} (h : OkNv A (rowsV l) st ac) {s a : Nat} (hs : s < l.length) (ha : a < A) : zf0 (lstC l s a).1 l.length = true := by
 have := h.ri s a (by rw [qb0]; exact hs) ha
 rw [xw0 l s hs, wJ0 _ a (by rw [h.row hs]; exact ha), qb0] at this
 exact this
theorem vcx9 {A : Nat} {zr : Nat} {l : List RC} {c : Option Nat} {zs : Nat} {st : List Int} {cs : Option Nat} {za : Nat} {ac : List Int} {ca : Option Nat} (hzr : l = [] ∨ zr = 1) (h : OkNv A (rowsV l) st ac) (hi : ∀ s a, s < l.length → a < A → (lstC l s a).1.length ≤ 9223372036854775807) {p : Nat → Bool} {S : List Nat} (hp : SetIs l.length p S) {a : Nat} (ha : a < A) :
  PC Tryz.prog G0 47 [nA A zr l c zs st cs za ac ca, .agg (setL p), .int .i64 a] (.agg (setL (vbl9 (rowsV l) p a))) := by
 have hn := h.n
 have ha2 := h.a2
 rw [qb0] at hn
 have hm : ∀ s ∈ elemsP p, s < l.length := fun s hs => by rw [hp.elems hn] at hs; exact hp.lt hs
 refine xdO9 A zr l c zs st cs za ac ca p a hzr hn (by omega) (fun s hs => ⟨hm s hs, by rw [h.row (hm s hs)]; exact ha⟩) (fun s hs => ⟨hi s a (hm s hs) ha, fun x hx => ?_⟩) (fun s hs => by rw [h.row hs]; omega)
 have := vc0 (h.lst (hm s hs) ha) x hx
 omega
theorem kcx9 {sym : Int} {w : List Int} (h : kG0 sym w = 0) : sym ≤ 16 ∧ w.length ≤ 256 ∧ 1 ≤ sym ∧ ∀ x ∈ w, 0 ≤ x ∧ x < sym := by
 unfold kG0 at h
 split at h
 ·cases h
 ·rename_i h1
  split at h
  ·cases h
  ·rename_i h2
   simp only [not_or, Bool.not_eq_true, Int.not_lt, Nat.not_lt] at h1 h2
   refine ⟨h1.1, h1.2, h2.1, fun x hx => ?_⟩
   have := List.any_eq_false.1 h2.2 x hx
   simp only [badW, Bool.or_eq_true, decide_eq_true_eq, not_or] at this
   omega
def accV (sym : Int) (l : List RC) (st ac : List Int) (w : List Int) : AV :=
 if zs0 sym (rowsV l) st ac ≠ 0 then .tup [.bool false, .int .i64 (zs0 sym (rowsV l) st ac)]
 else if kG0 sym w ≠ 0 then .tup [.bool false, .int .i64 (kG0 sym w)]
 else .tup [.bool (kB0 (nfOf (rowsV l) st ac) (natL w)), .int .i64 0]
set_option maxRecDepth 100000 in
theorem wq0 (sym : Int) (zr : Nat) (l : List RC) (c : Option Nat) (zs : Nat) (st : List Int) (cs : Option Nat) (za : Nat) (ac : List Int) (ca : Option Nat) (hsz : SizeN zr l zs st za ac) (zw : Nat) (w : List Int) (cw : Option Nat) (hzw : w = [] ∨ zw = 1) (hw : w.length ≤ 9223372036854775807) :
  PC Tryz.prog G0 14 [nA sym zr l c zs st cs za ac ca, .sl zw (ints w) cw] (accV sym l st ac w) := by
 have hck := hsz.check (sym := sym) (c := c) (cs := cs) (ca := ca)
 have hcw := kdx9 zw w cw sym hzw hw
 have hidR : ∀ p, idsE p (xc0 l) = true := fun p => wc0 _ _
 have hidS : ∀ p, idsE p (ints st) = true := fun p => va0 _ _
 have hidA : ∀ p, idsE p (ints ac) = true := fun p => va0 _ _
 have hidW : ∀ p, idsE p (ints w) = true := fun p => va0 _ _
 unfold accV
 by_cases h0 : zs0 sym (rowsV l) st ac = 0
 ·rw [if_neg (by simp [h0])]
  rw [h0] at hck
  by_cases h1 : kG0 sym w = 0
  ·rw [if_neg (by simp [h1])]
   rw [h1] at hcw
   obtain ⟨A, rfl, hok⟩ := qct9 h0
   obtain ⟨_, hw256, _, hwr⟩ := kcx9 h1
   have hn := hok.n
   rw [qb0] at hn
   have hst := hok.st
   have hac := hok.ac
   rw [qb0] at hst hac
   have hofs := of32 zs st cs hsz.zst hsz.bst (fun x hx => by have := vc0 hst x hx; omega)
   have hofa := of32 za ac ca hsz.zac hsz.bac (fun x hx => by have := vc0 hac x hx; omega)
   have hS0 := qaC9 hst
   have hF := qaC9 hac
   have hrun := fun w h => xcx9 hok w (p := inL st) (S := natL st) (by rw [qb0]; exact hS0) h
   have hlang : kB0 (nfOf (rowsV l) st ac) (natL w) = accN (nfOf (rowsV l) st ac) (runX (stepN (nfOf (rowsV l) st ac)) (natL st) (natL w)) := rfl
   have hmeet := wby9 (runP (rowsV l) (inL st) (natL w)) (inL ac)
   have hwA : ∀ a ∈ natL w, a < A := fun a ha => by
    obtain ⟨x, hx, rfl⟩ := List.mem_map.1 ha
    have := hwr x hx; omega
   have hr2 := hrun _ hwA
   rw [qb0] at hr2
   rw [kbl9 hr2 hF hn] at hmeet
   rw [show ((runX (stepN (nfOf (rowsV l) st ac)) (natL st) (natL w)).any fun s => (natL ac).contains s) = kB0 (nfOf (rowsV l) st ac) (natL w) from rfl] at hmeet
   generalize kB0 (nfOf (rowsV l) st ac) (natL w) = R at *
   have hstep : ∀ k, k < w.length → PC Tryz.prog G0 47 [nA A zr l c zs st cs za ac ca, .agg (setL (runP (rowsV l) (inL st) (natL (w.take k)))), .int .i64 (w.getD k 0)] (.agg (setL (runP (rowsV l) (inL st) (natL (w.take (k + 1)))))) := fun k hk => by
    have hx := hwr _ (qd0 (d := 0) hk)
    have hrk := hrun (natL (w.take k)) (fun a ha => by
     obtain ⟨x, hx, rfl⟩ := List.mem_map.1 ha
     have := hwr x (List.mem_of_mem_take hx); omega)
    rw [qb0] at hrk
    have e : natL (w.take (k + 1)) = natL (w.take k) ++ [(w.getD k 0).toNat] := by rw [natL, ks0 Int.toNat w 0 k hk]; rfl
    rw [e, wcx9]
    have hi : ∀ s a, s < l.length → a < A → (lstC l s a).1.length ≤ 9223372036854775807 := fun s a hs ha => hsz.bi s a hs (by rw [hok.row hs]; exact ha)
    have hz := vcx9 (c := c) (zs := zs) (cs := cs) (za := za) (ca := ca) hsz.zl hok hi hrk (a := (w.getD k 0).toNat) (by omega)
    rw [show (((w.getD k 0).toNat : Nat) : Int) = w.getD k 0 by omega] at hz
    exact hz
   have hil := ka0 w
   have hP0 : runP (rowsV l) (inL st) (natL (w.take 0)) = inL st := rfl
   have hPn : runP (rowsV l) (inL st) (natL (w.take w.length)) = runP (rowsV l) (inL st) (natL w) := by rw [List.take_length]
   rw [← hPn] at hmeet
   generalize hPk : (fun k => setL (runP (rowsV l) (inL st) (natL (w.take k)))) = PK at *
   have hPK : ∀ k, setL (runP (rowsV l) (inL st) (natL (w.take k))) = PK k := fun k => by rw [← hPk]
   have hPK0 : setL (inL st) = PK 0 := by rw [← hPK 0, hP0]
   have hPl : ∀ k, (PK k).length = 4 := fun k => by rw [← hPK k]; rfl
   have hPi : ∀ k f, idsL f (PK k) = true := fun k f => by rw [← hPK k]; exact vh0 _ _
   have hPt : ∀ k, (PK k).take 4 = PK k := fun k => by rw [← hPK k]; rfl
   have hPd : ∀ k, (PK k).drop 4 = [] := fun k => by rw [← hPK k]; rfl
   have hAi : ∀ f, idsL f (setL (inL ac)) = true := fun f => vh0 _ _
   simp only [hPK] at hstep hmeet
   rw [hPK0] at hofs
   generalize setL (inL ac) = SA at *
   clear hrun hlang hr2
   have e1 := kc0 w
   unfold nA at *
   generalize hRN : xc0 l = RN at *
   refine vd0 0 42 [.tmp 4, .tmp 5] Tryz.func14 rfl rfl rfl (by simp) ?_
   intro s ⟨a0, a1, hz⟩
   simp only [Nat.zero_add, Nat.reduceAdd] at a1
   clear hz
   repeat' (first|refine nav ?_|(refine g0_ ?_; refine goD ?_)|(with_reducible refine gG ?_ ?_)|((with_reducible refine And.intro (fun h => ?_) (fun h => ?_)) <;> try (exfalso; omega))|(with_reducible refine andG ?_)|(first|(refine ⟨_, _, qa0 (hck) (by (simp [idsL, idsE, AV.ids, hidR, hidS, hidA, hidW, hPi, hAi])) _, ?_⟩)|(refine ⟨_, qa0 (hck) (by (simp [idsL, idsE, AV.ids, hidR, hidS, hidA, hidW, hPi, hAi])) _, ?_⟩)|(refine ⟨_, fun _ => qa0 (hck) (by (simp [idsL, idsE, AV.ids, hidR, hidS, hidA, hidW, hPi, hAi])) _, ?_⟩)|(refine ⟨_, _, qa0 (hcw) (by (simp [idsL, idsE, AV.ids, hidR, hidS, hidA, hidW, hPi, hAi])) _, ?_⟩)|(refine ⟨_, qa0 (hcw) (by (simp [idsL, idsE, AV.ids, hidR, hidS, hidA, hidW, hPi, hAi])) _, ?_⟩)|(refine ⟨_, fun _ => qa0 (hcw) (by (simp [idsL, idsE, AV.ids, hidR, hidS, hidA, hidW, hPi, hAi])) _, ?_⟩)|(refine ⟨_, _, qa0 (hofs) (by (simp [idsL, idsE, AV.ids, hidR, hidS, hidA, hidW, hPi, hAi])) _, ?_⟩)|(refine ⟨_, qa0 (hofs) (by (simp [idsL, idsE, AV.ids, hidR, hidS, hidA, hidW, hPi, hAi])) _, ?_⟩)|(refine ⟨_, fun _ => qa0 (hofs) (by (simp [idsL, idsE, AV.ids, hidR, hidS, hidA, hidW, hPi, hAi])) _, ?_⟩))|simp (disch := (first|exact za0|fail)) only [push_cast, simprocAttr, a0, a1, hPl, hPt, hPd])
   refine go_loop rfl (fun mz s' H' => ∃ k : Nat, k ≤ w.length ∧ mz = w.length - k ∧ H' = [.row 4 29 [[.int .i64 A, .sl zr RN c, .sl zs (ints st) cs, .sl za (ints ac) ca]], .row 4 68 [PK k]] ∧ s' 2 = .ptr 0 0 0 1 ∧ s' 8 = .ptr 1 0 0 1 ∧ s' 26 = .sl zw (ints w) cw ∧ s' 27 = .int .i64 w.length ∧ s' 28 = .int .i64 k) (m := w.length) (by first|exact xb0|fail) (Weak.refl _ _) ⟨0, by omega, by omega, rfl, ?_⟩ ?_
   ·simp (disch := (first|exact za0|fail)) only [push_cast, simprocAttr, a0, a1, hPl, hPt, hPd]
   ·rintro mz s' H' ⟨k, hk, rfl, rfl, b2, b8, b26, b27, b28⟩
    rcases Nat.lt_or_ge k w.length with hlt|hge
    ·obtain rfl := hzw.resolve_left (by intro h; rw [h] at hlt; simp at hlt)
     have e1 := e1 k hlt
     have hstk := hstep k hlt
     generalize w.getD k 0 = x at *
     repeat' (first|refine nav ?_|(refine g0_ ?_; refine goD ?_)|(with_reducible refine gG ?_ ?_)|((with_reducible refine And.intro (fun h => ?_) (fun h => ?_)) <;> try (exfalso; omega))|(with_reducible refine andG ?_)|(first|(refine ⟨_, _, qa0 (hstk) (by (simp [idsL, idsE, AV.ids, hidR, hidS, hidA, hidW, hPi, hAi])) _, ?_⟩)|(refine ⟨_, qa0 (hstk) (by (simp [idsL, idsE, AV.ids, hidR, hidS, hidA, hidW, hPi, hAi])) _, ?_⟩)|(refine ⟨_, fun _ => qa0 (hstk) (by (simp [idsL, idsE, AV.ids, hidR, hidS, hidA, hidW, hPi, hAi])) _, ?_⟩))|simp (disch := (first|exact za0|fail)) only [push_cast, simprocAttr, b2, b8, b26, b27, b28, e1, hil, hPl, hPt, hPd])
     refine xa0 (w.length - (k + 1)) (by omega) (by first|exact xb0|fail) ⟨k + 1, by omega, rfl, rfl, ?_⟩
     simp (disch := (first|exact za0|fail)) only [push_cast, simprocAttr, b2, b8, b26, b27, b28, e1, hil, hPl, hPt, hPd]
    ·obtain rfl : k = w.length := by omega
     repeat' (first|refine nav ?_|(refine g0_ ?_; refine goD ?_)|(with_reducible refine gG ?_ ?_)|((with_reducible refine And.intro (fun h => ?_) (fun h => ?_)) <;> try (exfalso; omega))|(with_reducible refine andG ?_)|(first|(refine ⟨_, _, qa0 (hofa) (by (simp [idsL, idsE, AV.ids, hidR, hidS, hidA, hidW, hPi, hAi])) _, ?_⟩)|(refine ⟨_, qa0 (hofa) (by (simp [idsL, idsE, AV.ids, hidR, hidS, hidA, hidW, hPi, hAi])) _, ?_⟩)|(refine ⟨_, fun _ => qa0 (hofa) (by (simp [idsL, idsE, AV.ids, hidR, hidS, hidA, hidW, hPi, hAi])) _, ?_⟩)|(refine ⟨_, _, qa0 (hmeet) (by (simp [idsL, idsE, AV.ids, hidR, hidS, hidA, hidW, hPi, hAi])) _, ?_⟩)|(refine ⟨_, qa0 (hmeet) (by (simp [idsL, idsE, AV.ids, hidR, hidS, hidA, hidW, hPi, hAi])) _, ?_⟩)|(refine ⟨_, fun _ => qa0 (hmeet) (by (simp [idsL, idsE, AV.ids, hidR, hidS, hidA, hidW, hPi, hAi])) _, ?_⟩))|simp (disch := (first|exact za0|fail)) only [push_cast, simprocAttr, b2, b8, b26, b27, b28, hil, hPl, hPt, hPd])
  ·rw [if_pos h1]
   generalize kG0 sym w = e at *
   unfold nA at *
   generalize xc0 l = RN at *
   generalize ints st = IS at *
   generalize ints ac = IA at *
   generalize ints w = IW at *
   refine vd0 0 42 [.tmp 4, .tmp 5] Tryz.func14 rfl rfl rfl (by simp) ?_
   intro s ⟨a0, a1, hz⟩
   simp only [Nat.zero_add, Nat.reduceAdd] at a1
   clear hz
   repeat' (first|refine nav ?_|(refine g0_ ?_; refine goD ?_)|(with_reducible refine gG ?_ ?_)|((with_reducible refine And.intro (fun h => ?_) (fun h => ?_)) <;> try (exfalso; omega))|(with_reducible refine andG ?_)|(first|(refine ⟨_, _, qa0 (hck) (by (simp [idsL, idsE, AV.ids, hidR, hidS, hidA, hidW])) _, ?_⟩)|(refine ⟨_, qa0 (hck) (by (simp [idsL, idsE, AV.ids, hidR, hidS, hidA, hidW])) _, ?_⟩)|(refine ⟨_, fun _ => qa0 (hck) (by (simp [idsL, idsE, AV.ids, hidR, hidS, hidA, hidW])) _, ?_⟩)|(refine ⟨_, _, qa0 (hcw) (by (simp [idsL, idsE, AV.ids, hidR, hidS, hidA, hidW])) _, ?_⟩)|(refine ⟨_, qa0 (hcw) (by (simp [idsL, idsE, AV.ids, hidR, hidS, hidA, hidW])) _, ?_⟩)|(refine ⟨_, fun _ => qa0 (hcw) (by (simp [idsL, idsE, AV.ids, hidR, hidS, hidA, hidW])) _, ?_⟩))|simp (disch := (first|exact za0|fail)) only [push_cast, simprocAttr, a0, a1, h1])
 ·rw [if_pos h0]
  generalize zs0 sym (rowsV l) st ac = e at *
  unfold nA at *
  generalize xc0 l = RN at *
  generalize ints st = IS at *
  generalize ints ac = IA at *
  generalize ints w = IW at *
  refine vd0 0 42 [.tmp 4, .tmp 5] Tryz.func14 rfl rfl rfl (by simp) ?_
  intro s ⟨a0, a1, hz⟩
  simp only [Nat.zero_add, Nat.reduceAdd] at a1
  clear hz
  repeat' (first|refine nav ?_|(refine g0_ ?_; refine goD ?_)|(with_reducible refine gG ?_ ?_)|((with_reducible refine And.intro (fun h => ?_) (fun h => ?_)) <;> try (exfalso; omega))|(with_reducible refine andG ?_)|(first|(refine ⟨_, _, qa0 (hck) (by (simp [idsL, idsE, AV.ids, hidR, hidS, hidA, hidW])) _, ?_⟩)|(refine ⟨_, qa0 (hck) (by (simp [idsL, idsE, AV.ids, hidR, hidS, hidA, hidW])) _, ?_⟩)|(refine ⟨_, fun _ => qa0 (hck) (by (simp [idsL, idsE, AV.ids, hidR, hidS, hidA, hidW])) _, ?_⟩))|simp (disch := (first|exact za0|fail)) only [push_cast, simprocAttr, a0, a1, h0])
end Go.Proofs
