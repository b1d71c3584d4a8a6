import Derived.Test.YtcoakjnmnommpaaDoorA1
import Derived.Test.YtcoakjnmnommpaaDoorA9
import Derived.Test.YtcoakjnmnommpaaDoorA7
import Derived.Test.YtcoakjnmnommpaaDoorA4
namespace Go.Proofs
open Go Go.V
set_option linter.unusedVariables false
set_option linter.unusedSimpArgs false
set_option maxHeartbeats 0
def badW (n x : Int) : Bool := decide (x < 0) || decide (n ≤ x)
set_option maxRecDepth 100000 in
theorem qdp9 (x n : Int) (b : Nat) (H : List Blk) (hb : H[b]? = some (.row 1 3 [[.int .i64 n]])) : ze0 Tryd.prog G0 72 [.int .i64 x, .ptr b 0 0 1] H (.bool (badW n x)) H := by
 by_cases h1 : x < 0
 ·rw [show badW n x = true by simp [badW, h1]]
  refine kI0 11 [.tmp 3] Tryd.func72 rfl rfl rfl (by simp) ?_
  intro s ⟨a0, a1, hz⟩
  simp only [Nat.zero_add, Nat.reduceAdd] at a1
  clear hz
  repeat' (first|refine nav ?_|(refine g0_ ?_; refine goD ?_)|(with_reducible refine gG ?_ ?_)|((with_reducible refine And.intro (fun h => ?_) (fun h => ?_)) <;> try (exfalso; omega))|(with_reducible refine andG ?_)|(refine And.intro ⟨[_], rfl⟩ ?_)|(refine And.intro ⟨[], by simp only [List.append_nil]⟩ ?_)|fail|simp (disch := (first|exact discB|fail)) only [push_cast, ↓reduceIte, reduceCtorEq, Nat.reduceAdd, Nat.reduceLT, Nat.reduceEqDiff, Nat.reduceLeDiff, Int.reduceAdd, Int.reduceLT, Int.reduceLE, Nat.reduceMul, a0, a1, hb, h1])
 ·by_cases h2 : n ≤ x
  ·rw [show badW n x = true by simp [badW, h2]]
   refine kI0 11 [.tmp 3] Tryd.func72 rfl rfl rfl (by simp) ?_
   intro s ⟨a0, a1, hz⟩
   simp only [Nat.zero_add, Nat.reduceAdd] at a1
   clear hz
   repeat' (first|refine nav ?_|(refine g0_ ?_; refine goD ?_)|(with_reducible refine gG ?_ ?_)|((with_reducible refine And.intro (fun h => ?_) (fun h => ?_)) <;> try (exfalso; omega))|(with_reducible refine andG ?_)|(refine And.intro ⟨[_], rfl⟩ ?_)|(refine And.intro ⟨[], by simp only [List.append_nil]⟩ ?_)|fail|simp (disch := (first|exact discB|fail)) only [push_cast, ↓reduceIte, reduceCtorEq, Nat.reduceAdd, Nat.reduceLT, Nat.reduceEqDiff, Nat.reduceLeDiff, Int.reduceAdd, Int.reduceLT, Int.reduceLE, Nat.reduceMul, a0, a1, hb, h1, h2])
  ·rw [show badW n x = false by simp [badW, h1, h2]]
   refine kI0 11 [.tmp 3] Tryd.func72 rfl rfl rfl (by simp) ?_
   intro s ⟨a0, a1, hz⟩
   simp only [Nat.zero_add, Nat.reduceAdd] at a1
   clear hz
   repeat' (first|refine nav ?_|(refine g0_ ?_; refine goD ?_)|(with_reducible refine gG ?_ ?_)|((with_reducible refine And.intro (fun h => ?_) (fun h => ?_)) <;> try (exfalso; omega))|(with_reducible refine andG ?_)|(refine And.intro ⟨[_], rfl⟩ ?_)|(refine And.intro ⟨[], by simp only [List.append_nil]⟩ ?_)|fail|simp (disch := (first|exact discB|fail)) only [push_cast, ↓reduceIte, reduceCtorEq, Nat.reduceAdd, Nat.reduceLT, Nat.reduceEqDiff, Nat.reduceLeDiff, Int.reduceAdd, Int.reduceLT, Int.reduceLE, Nat.reduceMul, a0, a1, hb, h1, h2])
def idxM (p : Int → Bool) (xs : List Int) : Int := match xs.findIdx? p with|some k => k|none => -1
theorem qcP9 {p : Int → Bool} {xs : List Int} {k : Nat} (hk : k < xs.length) (h : p (xs.getD k 0) = true) (hm : ∀ j, j < k → p (xs.getD j 0) = false) : idxM p xs = k := by
 have : xs.findIdx? p = some k := by
  rw [List.findIdx?_eq_some_iff_getElem]
  refine ⟨hk, ?_, fun j hj => ?_⟩
  ·rw [List.getD_eq_getElem?_getD, List.getElem?_eq_getElem hk] at h; exact h
  ·have := hm j hj
   rw [List.getD_eq_getElem?_getD, List.getElem?_eq_getElem (by omega)] at this
   simpa using this
 rw [idxM, this]
theorem vcq9 {p : Int → Bool} {xs : List Int} (hm : ∀ j, j < xs.length → p (xs.getD j 0) = false) : idxM p xs = -1 := by
 have : xs.findIdx? p = none := by
  rw [List.findIdx?_eq_none_iff]
  intro x hx
  obtain ⟨j, hj, rfl⟩ := List.getElem_of_mem hx
  have := hm j hj
  rw [List.getD_eq_getElem?_getD, List.getElem?_eq_getElem hj] at this
  exact this
 rw [idxM, this]
theorem zcP9 (p : Int → Bool) (xs : List Int) : decide (0 ≤ idxM p xs) = xs.any p := by
 unfold idxM
 cases h : xs.findIdx? p with
 | none =>
  rw [List.findIdx?_eq_none_iff] at h
  have : xs.any p = false := by rw [List.any_eq_false]; intro x hx; rw [h x hx]; decide
  rw [this]; rfl
 | some k =>
  obtain ⟨hk, h1, _⟩ := List.findIdx?_eq_some_iff_getElem.1 h
  have : xs.any p = true := by rw [List.any_eq_true]; exact ⟨_, List.getElem_mem hk, h1⟩
  rw [this]; simp
set_option maxRecDepth 100000 in
theorem qbw9 (p : Int → Bool) (g : FuncId) (cap : List AV) (z : Nat) (xs : List Int) (c : Option Nat) (H : List Blk) (hent : va0 Tryd.prog g = true) (hp : ∀ x, ze0 Tryd.prog G0 g (.int .i64 x :: cap) H (.bool (p x)) H) (hz : xs = [] ∨ z = 1) (hx : xs.length ≤ 140737488355328) :
  ze0 Tryd.prog G0 83 [.sl z (ints xs) c, .fn g cap] H (.int .i64 (idxM p xs)) H := by
 have hil := za0 xs
 refine kI0 19 [.tmp 4] Tryd.func83 rfl rfl rfl (by simp) ?_
 intro s ⟨a0, a1, hz⟩
 simp only [Nat.zero_add, Nat.reduceAdd] at a1
 clear hz
 repeat' (first|refine nav ?_|(refine g0_ ?_; refine goD ?_)|(with_reducible refine gG ?_ ?_)|((with_reducible refine And.intro (fun h => ?_) (fun h => ?_)) <;> try (exfalso; omega))|(with_reducible refine andG ?_)|(refine And.intro ⟨[_], rfl⟩ ?_)|(refine And.intro ⟨[], by simp only [List.append_nil]⟩ ?_)|fail|simp (disch := (first|exact discB|fail)) only [push_cast, ↓reduceIte, reduceCtorEq, Nat.reduceAdd, Nat.reduceLT, Nat.reduceEqDiff, Nat.reduceLeDiff, Int.reduceAdd, Int.reduceLT, Int.reduceLE, Nat.reduceMul, a0, a1, hil, hent])
 refine go_loop rfl (fun mz s' H' => ∃ k : Nat, k ≤ xs.length ∧ mz = xs.length - k ∧ H' = H ∧ s' 0 = .sl z (ints xs) c ∧ s' 1 = .fn g cap ∧ s' 7 = .int .i64 xs.length ∧ s' 8 = .int .i64 k ∧ (∀ j, j < k → p (xs.getD j 0) = false)) (m := xs.length) (by first|exact wa0|fail) (Weak.refl _ _) ⟨0, by omega, by omega, rfl, ?_⟩ ?_
 ·refine ⟨?_, ?_, ?_, ?_, fun j hj => by omega⟩
  all_goals simp (disch := (first|exact discB|fail)) only [push_cast, ↓reduceIte, reduceCtorEq, Nat.reduceAdd, Nat.reduceLT, Nat.reduceEqDiff, Nat.reduceLeDiff, Int.reduceAdd, Int.reduceLT, Int.reduceLE, Nat.reduceMul, a0, a1, hil, hent]
 ·rintro mz s' H' ⟨k, hk, rfl, rfl, b0, b1, b7, b8, ik⟩
  rcases Nat.lt_or_ge k xs.length with hlt|hge
  ·obtain rfl := hz.resolve_left (by intro h; rw [h] at hlt; simp at hlt)
   have e1 := wc0 xs k hlt
   have hhit := fun h => qcP9 (p := p) hlt h ik
   have hsn := wV0 (P := fun j => p (xs.getD j 0) = false) (k := k) ik
   generalize xs.getD k 0 = x at *
   have hpx := hp x
   cases hq : p x with
   | true =>
    rw [hq] at hpx
    rw [hhit hq]
    repeat' (first|refine nav ?_|(refine g0_ ?_; refine goD ?_)|(with_reducible refine gG ?_ ?_)|((with_reducible refine And.intro (fun h => ?_) (fun h => ?_)) <;> try (exfalso; omega))|(with_reducible refine andG ?_)|(refine And.intro ⟨[_], rfl⟩ ?_)|(refine And.intro ⟨[], by simp only [List.append_nil]⟩ ?_)|(first|(refine ⟨_, _, hpx, ?_⟩)|(refine ⟨_, hpx, ?_⟩)|(refine ⟨_, fun _ => hpx, ?_⟩))|simp (disch := (first|exact discB|fail)) only [push_cast, ↓reduceIte, reduceCtorEq, Nat.reduceAdd, Nat.reduceLT, Nat.reduceEqDiff, Nat.reduceLeDiff, Int.reduceAdd, Int.reduceLT, Int.reduceLE, Nat.reduceMul, b0, b1, b7, b8, e1, hil, hent])
   | false =>
    rw [hq] at hpx
    have hsn2 := hsn hq
    repeat' (first|refine nav ?_|(refine g0_ ?_; refine goD ?_)|(with_reducible refine gG ?_ ?_)|((with_reducible refine And.intro (fun h => ?_) (fun h => ?_)) <;> try (exfalso; omega))|(with_reducible refine andG ?_)|(refine And.intro ⟨[_], rfl⟩ ?_)|(refine And.intro ⟨[], by simp only [List.append_nil]⟩ ?_)|(first|(refine ⟨_, _, hpx, ?_⟩)|(refine ⟨_, hpx, ?_⟩)|(refine ⟨_, fun _ => hpx, ?_⟩))|simp (disch := (first|exact discB|fail)) only [push_cast, ↓reduceIte, reduceCtorEq, Nat.reduceAdd, Nat.reduceLT, Nat.reduceEqDiff, Nat.reduceLeDiff, Int.reduceAdd, Int.reduceLT, Int.reduceLE, Nat.reduceMul, b0, b1, b7, b8, e1, hil, hent])
    refine qa0 (xs.length - (k + 1)) (by omega) (by first|exact wa0|fail) ⟨k + 1, by omega, rfl, rfl, ?_, ?_, ?_, ?_, hsn2⟩
    all_goals simp (disch := (first|exact discB|fail)) only [push_cast, ↓reduceIte, reduceCtorEq, Nat.reduceAdd, Nat.reduceLT, Nat.reduceEqDiff, Nat.reduceLeDiff, Int.reduceAdd, Int.reduceLT, Int.reduceLE, Nat.reduceMul, b0, b1, b7, b8, e1, hil, hent]
  ·obtain rfl : k = xs.length := by omega
   rw [vcq9 ik]
   repeat' (first|refine nav ?_|(refine g0_ ?_; refine goD ?_)|(with_reducible refine gG ?_ ?_)|((with_reducible refine And.intro (fun h => ?_) (fun h => ?_)) <;> try (exfalso; omega))|(with_reducible refine andG ?_)|(refine And.intro ⟨[_], rfl⟩ ?_)|(refine And.intro ⟨[], by simp only [List.append_nil]⟩ ?_)|fail|simp (disch := (first|exact discB|fail)) only [push_cast, ↓reduceIte, reduceCtorEq, Nat.reduceAdd, Nat.reduceLT, Nat.reduceEqDiff, Nat.reduceLeDiff, Int.reduceAdd, Int.reduceLT, Int.reduceLE, Nat.reduceMul, b0, b1, b7, b8, hil, hent])
set_option maxRecDepth 100000 in
theorem kbU9 (p : Int → Bool) (g : FuncId) (cap : List AV) (z : Nat) (xs : List Int) (c : Option Nat) (H : List Blk) (hent : va0 Tryd.prog g = true) (hp : ∀ x, ze0 Tryd.prog G0 g (.int .i64 x :: cap) H (.bool (p x)) H) (hz : xs = [] ∨ z = 1) (hx : xs.length ≤ 140737488355328) :
  ze0 Tryd.prog G0 71 [.sl z (ints xs) c, .fn g cap] H (.bool (xs.any p)) H := by
 have h1 := qbw9 p g cap z xs c H hent hp hz hx
 have h2 := zcP9 p xs
 generalize idxM p xs = d at *
 generalize ints xs = IX at *
 rw [← h2]
 refine kI0 9 [.tmp 4] Tryd.func71 rfl rfl rfl (by simp) ?_
 intro s ⟨a0, a1, hz⟩
 simp only [Nat.zero_add, Nat.reduceAdd] at a1
 clear hz
 repeat' (first|refine nav ?_|(refine g0_ ?_; refine goD ?_)|(with_reducible refine gG ?_ ?_)|((with_reducible refine And.intro (fun h => ?_) (fun h => ?_)) <;> try (exfalso; omega))|(with_reducible refine andG ?_)|(refine And.intro ⟨[_], rfl⟩ ?_)|(refine And.intro ⟨[], by simp only [List.append_nil]⟩ ?_)|(first|(refine ⟨_, _, h1, ?_⟩)|(refine ⟨_, h1, ?_⟩)|(refine ⟨_, fun _ => h1, ?_⟩))|simp (disch := (first|exact discB|fail)) only [push_cast, ↓reduceIte, reduceCtorEq, Nat.reduceAdd, Nat.reduceLT, Nat.reduceEqDiff, Nat.reduceLeDiff, Int.reduceAdd, Int.reduceLT, Int.reduceLE, Nat.reduceMul, a0, a1, hent])
def wR0 (sym : Int) (w : List Int) : Int := if 16 < sym ∨ 256 < w.length then 3 else if sym < 1 ∨ w.any (badW sym) = true then 1 else 0
set_option maxRecDepth 100000 in
theorem zdp9 (z : Nat) (w : List Int) (c : Option Nat) (sym : Int) (hz : w = [] ∨ z = 1) (hw : w.length ≤ 140737488355328) : PC Tryd.prog G0 60 [.sl z (ints w) c, .int .i64 sym] (.int .i64 (wR0 sym w)) := by
 have hil := za0 w
 have hcf := kbU9 (badW sym) 72 [.ptr 0 0 0 1] z w c [.row 1 3 [[.int .i64 sym]]] en72 (fun x => qdp9 x sym 0 _ rfl) hz hw
 unfold wR0
 generalize ints w = IX at *
 generalize w.any (badW sym) = an at *
 by_cases h1 : 16 < sym
 ·rw [if_pos (.inl h1)]
  refine wd0 0 19 [.tmp 4] Tryd.func60 rfl rfl rfl (by simp) ?_
  intro s ⟨a0, a1, hz⟩
  simp only [Nat.zero_add, Nat.reduceAdd] at a1
  clear hz
  repeat' (first|refine nav ?_|(refine g0_ ?_; refine goD ?_)|(with_reducible refine gG ?_ ?_)|((with_reducible refine And.intro (fun h => ?_) (fun h => ?_)) <;> try (exfalso; omega))|(with_reducible refine andG ?_)|(refine And.intro ⟨[_], rfl⟩ ?_)|(refine And.intro ⟨[], by simp only [List.append_nil]⟩ ?_)|fail|simp (disch := (first|exact discB|fail)) only [push_cast, ↓reduceIte, reduceCtorEq, Nat.reduceAdd, Nat.reduceLT, Nat.reduceEqDiff, Nat.reduceLeDiff, Int.reduceAdd, Int.reduceLT, Int.reduceLE, Nat.reduceMul, a0, a1, hil, h1])
 ·by_cases h2 : 256 < w.length
  ·rw [if_pos (.inr h2)]
   have h2' : (256 : Int) < w.length := by omega
   refine wd0 0 19 [.tmp 4] Tryd.func60 rfl rfl rfl (by simp) ?_
   intro s ⟨a0, a1, hz⟩
   simp only [Nat.zero_add, Nat.reduceAdd] at a1
   clear hz
   repeat' (first|refine nav ?_|(refine g0_ ?_; refine goD ?_)|(with_reducible refine gG ?_ ?_)|((with_reducible refine And.intro (fun h => ?_) (fun h => ?_)) <;> try (exfalso; omega))|(with_reducible refine andG ?_)|(refine And.intro ⟨[_], rfl⟩ ?_)|(refine And.intro ⟨[], by simp only [List.append_nil]⟩ ?_)|fail|simp (disch := (first|exact discB|fail)) only [push_cast, ↓reduceIte, reduceCtorEq, Nat.reduceAdd, Nat.reduceLT, Nat.reduceEqDiff, Nat.reduceLeDiff, Int.reduceAdd, Int.reduceLT, Int.reduceLE, Nat.reduceMul, a0, a1, hil, h1, h2'])
  ·rw [if_neg (by omega)]
   have h2' : ¬ (256 : Int) < w.length := by omega
   by_cases h3 : sym < 1
   ·rw [if_pos (.inl h3)]
    refine wd0 0 19 [.tmp 4] Tryd.func60 rfl rfl rfl (by simp) ?_
    intro s ⟨a0, a1, hz⟩
    simp only [Nat.zero_add, Nat.reduceAdd] at a1
    clear hz
    repeat' (first|refine nav ?_|(refine g0_ ?_; refine goD ?_)|(with_reducible refine gG ?_ ?_)|((with_reducible refine And.intro (fun h => ?_) (fun h => ?_)) <;> try (exfalso; omega))|(with_reducible refine andG ?_)|(refine And.intro ⟨[_], rfl⟩ ?_)|(refine And.intro ⟨[], by simp only [List.append_nil]⟩ ?_)|(first|(refine ⟨AV.bool true, ?_⟩; refine qau9 ?_))|simp (disch := (first|exact discB|fail)) only [push_cast, ↓reduceIte, reduceCtorEq, Nat.reduceAdd, Nat.reduceLT, Nat.reduceEqDiff, Nat.reduceLeDiff, Int.reduceAdd, Int.reduceLT, Int.reduceLE, Nat.reduceMul, a0, a1, hil, h1, h2', h3])
   ·cases an with
    | true =>
     rw [if_pos (.inr rfl)]
     refine wd0 0 19 [.tmp 4] Tryd.func60 rfl rfl rfl (by simp) ?_
     intro s ⟨a0, a1, hz⟩
     simp only [Nat.zero_add, Nat.reduceAdd] at a1
     clear hz
     repeat' (first|refine nav ?_|(refine g0_ ?_; refine goD ?_)|(with_reducible refine gG ?_ ?_)|((with_reducible refine And.intro (fun h => ?_) (fun h => ?_)) <;> try (exfalso; omega))|(with_reducible refine andG ?_)|(refine And.intro ⟨[_], rfl⟩ ?_)|(refine And.intro ⟨[], by simp only [List.append_nil]⟩ ?_)|(first|(refine ⟨_, _, hcf, ?_⟩)|(refine ⟨_, hcf, ?_⟩)|(refine ⟨_, fun _ => hcf, ?_⟩))|simp (disch := (first|exact discB|fail)) only [push_cast, ↓reduceIte, reduceCtorEq, Nat.reduceAdd, Nat.reduceLT, Nat.reduceEqDiff, Nat.reduceLeDiff, Int.reduceAdd, Int.reduceLT, Int.reduceLE, Nat.reduceMul, a0, a1, hil, h1, h2', h3])
    | false =>
     rw [if_neg (by simp; omega)]
     refine wd0 0 19 [.tmp 4] Tryd.func60 rfl rfl rfl (by simp) ?_
     intro s ⟨a0, a1, hz⟩
     simp only [Nat.zero_add, Nat.reduceAdd] at a1
     clear hz
     repeat' (first|refine nav ?_|(refine g0_ ?_; refine goD ?_)|(with_reducible refine gG ?_ ?_)|((with_reducible refine And.intro (fun h => ?_) (fun h => ?_)) <;> try (exfalso; omega))|(with_reducible refine andG ?_)|(refine And.intro ⟨[_], rfl⟩ ?_)|(refine And.intro ⟨[], by simp only [List.append_nil]⟩ ?_)|(first|(refine ⟨_, _, hcf, ?_⟩)|(refine ⟨_, hcf, ?_⟩)|(refine ⟨_, fun _ => hcf, ?_⟩))|simp (disch := (first|exact discB|fail)) only [push_cast, ↓reduceIte, reduceCtorEq, Nat.reduceAdd, Nat.reduceLT, Nat.reduceEqDiff, Nat.reduceLeDiff, Int.reduceAdd, Int.reduceLT, Int.reduceLE, Nat.reduceMul, a0, a1, hil, h1, h2', h3])
end Go.Proofs
namespace Go.Proofs
open Go Go.V
set_option linter.unusedVariables false
set_option linter.unusedSimpArgs false
set_option maxHeartbeats 0
def runP (rows : List (List (List Int))) (p : Nat → Bool) (w : List Nat) : Nat → Bool := w.foldl (xbi9 rows) p
theorem kcq9 {A : Nat} {rows : List (List (List Int))} {st ac : List Int} (h : OkNv A rows st ac) : ∀ (w : List Nat) {p : Nat → Bool} {S : List Nat}, SetIs rows.length p S → (∀ a ∈ w, a < A) → SetIs rows.length (runP rows p w) (runX (stepN (nfOf rows st ac)) S w)
 | [], p, S, hp, _ => hp
 | a :: w, p, S, hp, hw => kcq9 h w (xbF9 h hp (hw a List.mem_cons_self)) fun b hb => hw b (List.mem_cons_of_mem _ hb)
theorem qcr9 (rows : List (List (List Int))) (p : Nat → Bool) (w : List Nat) (a : Nat) : runP rows p (w ++ [a]) = xbi9 rows (runP rows p w) a := by simp [runP]
structure SizeN (zr : Nat) (l : List RC) (zs : Nat) (st : List Int) (za : Nat) (ac : List Int) : Prop where
 zl : l = [] ∨ zr = 1
 zst : st = [] ∨ zs = 1
 zac : ac = [] ∨ za = 1
 bl : l.length ≤ 140737488355328
 bst : st.length ≤ 140737488355328
 bac : ac.length ≤ 140737488355328
 br : ∀ s, s < l.length → (l.getD s ([], none)).1.length ≤ 140737488355328
 bi : ∀ s a, s < l.length → a < (l.getD s ([], none)).1.length → ((l.getD s ([], none)).1.getD a ([], none)).1.length ≤ 140737488355328
theorem SizeN.check {sym : Int} {zr : Nat} {l : List RC} {c : Option Nat} {zs : Nat} {st : List Int} {cs : Option Nat} {za : Nat} {ac : List Int} {ca : Option Nat} (h : SizeN zr l zs st za ac) : PC Tryd.prog G0 31 [nA sym zr l c zs st cs za ac ca] (.int .i64 (xp0 sym (rowsV l) st ac)) :=
 kbT9 sym zr l c zs st cs za ac ca h.zl h.zst h.zac h.bl h.bst h.bac h.br h.bi
theorem OkNv.row {A : Nat} {l : List RC} {st ac : List Int} (h : OkNv A (rowsV l) st ac) {s : Nat} (hs : s < l.length) : (l.getD s ([], none)).1.length = A := by
 have := h.len s (by rw [kb0]; exact hs)
 rw [vy0 l s hs, vac9] at this
 exact this
theorem OkNv.lst {A : Nat} {l : List RC} {st ac : List Int} (h : OkNv A (rowsV l) st ac) {s a : Nat} (hs : s < l.length) (ha : a < A) : xf0 (lstC l s a).1 l.length = true := by
 have := h.ri s a (by rw [kb0]; exact hs) ha
 rw [vy0 l s hs, vO0 _ a (by rw [h.row hs]; exact ha), kb0] at this
 exact this
theorem zcr9 {A : Nat} {zr : Nat} {l : List RC} {c : Option Nat} {zs : Nat} {st : List Int} {cs : Option Nat} {za : Nat} {ac : List Int} {ca : Option Nat} (hzr : l = [] ∨ zr = 1) (h : OkNv A (rowsV l) st ac) (hi : ∀ s a, s < l.length → a < A → (lstC l s a).1.length ≤ 140737488355328) {p : Nat → Bool} {S : List Nat} (hp : SetIs l.length p S) {a : Nat} (ha : a < A) :
  PC Tryd.prog G0 33 [nA A zr l c zs st cs za ac ca, .agg (setL p), .int .i64 a] (.agg (setL (xbi9 (rowsV l) p a))) := by
 have hn := h.n
 have ha2 := h.a2
 rw [kb0] at hn
 have hm : ∀ s ∈ elemsP p, s < l.length := fun s hs => by rw [hp.elems hn] at hs; exact hp.lt hs
 refine kdD9 A zr l c zs st cs za ac ca p a hzr hn (by omega) (fun s hs => ⟨hm s hs, by rw [h.row (hm s hs)]; exact ha⟩) (fun s hs => ⟨hi s a (hm s hs) ha, fun x hx => ?_⟩) (fun s hs => by rw [h.row hs]; omega)
 have := zh0 (h.lst (hm s hs) ha) x hx
 omega
theorem xcr9 {sym : Int} {w : List Int} (h : wR0 sym w = 0) : sym ≤ 16 ∧ w.length ≤ 256 ∧ 1 ≤ sym ∧ ∀ x ∈ w, 0 ≤ x ∧ x < sym := by
 unfold wR0 at h
 split at h
 ·cases h
 ·rename_i h1
  split at h
  ·cases h
  ·rename_i h2
   simp only [not_or, Bool.not_eq_true, Int.not_lt, Nat.not_lt] at h1 h2
   refine ⟨h1.1, h1.2, h2.1, fun x hx => ?_⟩
   have := List.any_eq_false.1 h2.2 x hx
   simp only [badW, Bool.or_eq_true, decide_eq_true_eq, not_or] at this
   omega
def accV (sym : Int) (l : List RC) (st ac : List Int) (w : List Int) : AV :=
 if xp0 sym (rowsV l) st ac ≠ 0 then .tup [.bool false, .int .i64 (xp0 sym (rowsV l) st ac)]
 else if wR0 sym w ≠ 0 then .tup [.bool false, .int .i64 (wR0 sym w)]
 else .tup [.bool (wL0 (nfOf (rowsV l) st ac) (natL w)), .int .i64 0]
set_option maxRecDepth 100000 in
theorem kA0 (sym : Int) (zr : Nat) (l : List RC) (c : Option Nat) (zs : Nat) (st : List Int) (cs : Option Nat) (za : Nat) (ac : List Int) (ca : Option Nat) (hsz : SizeN zr l zs st za ac) (zw : Nat) (w : List Int) (cw : Option Nat) (hzw : w = [] ∨ zw = 1) (hw : w.length ≤ 140737488355328) :
  PC Tryd.prog G0 25 [nA sym zr l c zs st cs za ac ca, .sl zw (ints w) cw] (accV sym l st ac w) := by
 have hck := hsz.check (sym := sym) (c := c) (cs := cs) (ca := ca)
 have hcw := zdp9 zw w cw sym hzw hw
 have hidR : ∀ p, idsE p (kc0 l) = true := fun p => ke0 _ _
 have hidS : ∀ p, idsE p (ints st) = true := fun p => qb0 _ _
 have hidA : ∀ p, idsE p (ints ac) = true := fun p => qb0 _ _
 have hidW : ∀ p, idsE p (ints w) = true := fun p => qb0 _ _
 unfold accV
 by_cases h0 : xp0 sym (rowsV l) st ac = 0
 ·rw [if_neg (by simp [h0])]
  rw [h0] at hck
  by_cases h1 : wR0 sym w = 0
  ·rw [if_neg (by simp [h1])]
   rw [h1] at hcw
   obtain ⟨A, rfl, hok⟩ := kcm9 h0
   obtain ⟨_, hw256, _, hwr⟩ := xcr9 h1
   have hn := hok.n
   rw [kb0] at hn
   have hst := hok.st
   have hac := hok.ac
   rw [kb0] at hst hac
   have hofs := of32 zs st cs hsz.zst hsz.bst (fun x hx => by have := zh0 hst x hx; omega)
   have hofa := of32 za ac ca hsz.zac hsz.bac (fun x hx => by have := zh0 hac x hx; omega)
   have hS0 := vaK9 hst
   have hF := vaK9 hac
   have hrun := fun w h => kcq9 hok w (p := inL st) (S := natL st) (by rw [kb0]; exact hS0) h
   have hlang : wL0 (nfOf (rowsV l) st ac) (natL w) = accN (nfOf (rowsV l) st ac) (runX (stepN (nfOf (rowsV l) st ac)) (natL st) (natL w)) := rfl
   have hmeet := vbv9 (runP (rowsV l) (inL st) (natL w)) (inL ac)
   have hwA : ∀ a ∈ natL w, a < A := fun a ha => by
    obtain ⟨x, hx, rfl⟩ := List.mem_map.1 ha
    have := hwr x hx; omega
   have hr2 := hrun _ hwA
   rw [kb0] at hr2
   rw [wbi9 hr2 hF hn] at hmeet
   rw [show ((runX (stepN (nfOf (rowsV l) st ac)) (natL st) (natL w)).any fun s => (natL ac).contains s) = wL0 (nfOf (rowsV l) st ac) (natL w) from rfl] at hmeet
   generalize wL0 (nfOf (rowsV l) st ac) (natL w) = R at *
   have hstep : ∀ k, k < w.length → PC Tryd.prog G0 33 [nA A zr l c zs st cs za ac ca, .agg (setL (runP (rowsV l) (inL st) (natL (w.take k)))), .int .i64 (w.getD k 0)] (.agg (setL (runP (rowsV l) (inL st) (natL (w.take (k + 1)))))) := fun k hk => by
    have hx := hwr _ (kd0 (d := 0) hk)
    have hrk := hrun (natL (w.take k)) (fun a ha => by
     obtain ⟨x, hx, rfl⟩ := List.mem_map.1 ha
     have := hwr x (List.mem_of_mem_take hx); omega)
    rw [kb0] at hrk
    have e : natL (w.take (k + 1)) = natL (w.take k) ++ [(w.getD k 0).toNat] := by rw [natL, km0 Int.toNat w 0 k hk]; rfl
    rw [e, qcr9]
    have hi : ∀ s a, s < l.length → a < A → (lstC l s a).1.length ≤ 140737488355328 := fun s a hs ha => hsz.bi s a hs (by rw [hok.row hs]; exact ha)
    have hz := zcr9 (c := c) (zs := zs) (cs := cs) (za := za) (ca := ca) hsz.zl hok hi hrk (a := (w.getD k 0).toNat) (by omega)
    rw [show (((w.getD k 0).toNat : Nat) : Int) = w.getD k 0 by omega] at hz
    exact hz
   have hil := za0 w
   have hP0 : runP (rowsV l) (inL st) (natL (w.take 0)) = inL st := rfl
   have hPn : runP (rowsV l) (inL st) (natL (w.take w.length)) = runP (rowsV l) (inL st) (natL w) := by rw [List.take_length]
   rw [← hPn] at hmeet
   generalize hPk : (fun k => setL (runP (rowsV l) (inL st) (natL (w.take k)))) = PK at *
   have hPK : ∀ k, setL (runP (rowsV l) (inL st) (natL (w.take k))) = PK k := fun k => by rw [← hPk]
   have hPK0 : setL (inL st) = PK 0 := by rw [← hPK 0, hP0]
   have hPl : ∀ k, (PK k).length = 4 := fun k => by rw [← hPK k]; rfl
   have hPi : ∀ k f, idsL f (PK k) = true := fun k f => by rw [← hPK k]; exact idsL_set _ _
   have hPt : ∀ k, (PK k).take 4 = PK k := fun k => by rw [← hPK k]; rfl
   have hPd : ∀ k, (PK k).drop 4 = [] := fun k => by rw [← hPK k]; rfl
   have hAi : ∀ f, idsL f (setL (inL ac)) = true := fun f => idsL_set _ _
   simp only [hPK] at hstep hmeet
   rw [hPK0] at hofs
   generalize setL (inL ac) = SA at *
   clear hrun hlang hr2
   have e1 := wc0 w
   unfold nA at *
   generalize hRN : kc0 l = RN at *
   refine wd0 0 42 [.tmp 4, .tmp 5] Tryd.func25 rfl rfl rfl (by simp) ?_
   intro s ⟨a0, a1, hz⟩
   simp only [Nat.zero_add, Nat.reduceAdd] at a1
   clear hz
   repeat' (first|refine nav ?_|(refine g0_ ?_; refine goD ?_)|(with_reducible refine gG ?_ ?_)|((with_reducible refine And.intro (fun h => ?_) (fun h => ?_)) <;> try (exfalso; omega))|(with_reducible refine andG ?_)|(refine And.intro ⟨[_], rfl⟩ ?_)|(refine And.intro ⟨[], by simp only [List.append_nil]⟩ ?_)|(first|(refine ⟨_, _, pc_lift (hck) (by (simp [idsL, idsE, AV.ids, hidR, hidS, hidA, hidW, hPi, hAi])) _, ?_⟩)|(refine ⟨_, pc_lift (hck) (by (simp [idsL, idsE, AV.ids, hidR, hidS, hidA, hidW, hPi, hAi])) _, ?_⟩)|(refine ⟨_, fun _ => pc_lift (hck) (by (simp [idsL, idsE, AV.ids, hidR, hidS, hidA, hidW, hPi, hAi])) _, ?_⟩)|(refine ⟨_, _, pc_lift (hcw) (by (simp [idsL, idsE, AV.ids, hidR, hidS, hidA, hidW, hPi, hAi])) _, ?_⟩)|(refine ⟨_, pc_lift (hcw) (by (simp [idsL, idsE, AV.ids, hidR, hidS, hidA, hidW, hPi, hAi])) _, ?_⟩)|(refine ⟨_, fun _ => pc_lift (hcw) (by (simp [idsL, idsE, AV.ids, hidR, hidS, hidA, hidW, hPi, hAi])) _, ?_⟩)|(refine ⟨_, _, pc_lift (hofs) (by (simp [idsL, idsE, AV.ids, hidR, hidS, hidA, hidW, hPi, hAi])) _, ?_⟩)|(refine ⟨_, pc_lift (hofs) (by (simp [idsL, idsE, AV.ids, hidR, hidS, hidA, hidW, hPi, hAi])) _, ?_⟩)|(refine ⟨_, fun _ => pc_lift (hofs) (by (simp [idsL, idsE, AV.ids, hidR, hidS, hidA, hidW, hPi, hAi])) _, ?_⟩))|simp (disch := (first|exact discB|fail)) only [push_cast, ↓reduceIte, reduceCtorEq, Nat.reduceAdd, Nat.reduceLT, Nat.reduceEqDiff, Nat.reduceLeDiff, Int.reduceAdd, Int.reduceLT, Int.reduceLE, Nat.reduceMul, a0, a1, hPl, hPt, hPd])
   refine go_loop rfl (fun mz s' H' => ∃ k : Nat, k ≤ w.length ∧ mz = w.length - k ∧ H' = [.row 4 28 [[.int .i64 A, .sl zr RN c, .sl zs (ints st) cs, .sl za (ints ac) ca]], .row 4 68 [PK k]] ∧ s' 2 = .ptr 0 0 0 1 ∧ s' 8 = .ptr 1 0 0 1 ∧ s' 26 = .sl zw (ints w) cw ∧ s' 27 = .int .i64 w.length ∧ s' 28 = .int .i64 k) (m := w.length) (by first|exact wa0|fail) (Weak.refl _ _) ⟨0, by omega, by omega, rfl, ?_⟩ ?_
   ·simp (disch := (first|exact discB|fail)) only [push_cast, ↓reduceIte, reduceCtorEq, Nat.reduceAdd, Nat.reduceLT, Nat.reduceEqDiff, Nat.reduceLeDiff, Int.reduceAdd, Int.reduceLT, Int.reduceLE, Nat.reduceMul, a0, a1, hPl, hPt, hPd]
   ·rintro mz s' H' ⟨k, hk, rfl, rfl, b2, b8, b26, b27, b28⟩
    rcases Nat.lt_or_ge k w.length with hlt|hge
    ·obtain rfl := hzw.resolve_left (by intro h; rw [h] at hlt; simp at hlt)
     have e1 := e1 k hlt
     have hstk := hstep k hlt
     generalize w.getD k 0 = x at *
     repeat' (first|refine nav ?_|(refine g0_ ?_; refine goD ?_)|(with_reducible refine gG ?_ ?_)|((with_reducible refine And.intro (fun h => ?_) (fun h => ?_)) <;> try (exfalso; omega))|(with_reducible refine andG ?_)|(refine And.intro ⟨[_], rfl⟩ ?_)|(refine And.intro ⟨[], by simp only [List.append_nil]⟩ ?_)|(first|(refine ⟨_, _, pc_lift (hstk) (by (simp [idsL, idsE, AV.ids, hidR, hidS, hidA, hidW, hPi, hAi])) _, ?_⟩)|(refine ⟨_, pc_lift (hstk) (by (simp [idsL, idsE, AV.ids, hidR, hidS, hidA, hidW, hPi, hAi])) _, ?_⟩)|(refine ⟨_, fun _ => pc_lift (hstk) (by (simp [idsL, idsE, AV.ids, hidR, hidS, hidA, hidW, hPi, hAi])) _, ?_⟩))|simp (disch := (first|exact discB|fail)) only [push_cast, ↓reduceIte, reduceCtorEq, Nat.reduceAdd, Nat.reduceLT, Nat.reduceEqDiff, Nat.reduceLeDiff, Int.reduceAdd, Int.reduceLT, Int.reduceLE, Nat.reduceMul, b2, b8, b26, b27, b28, e1, hil, hPl, hPt, hPd])
     refine qa0 (w.length - (k + 1)) (by omega) (by first|exact wa0|fail) ⟨k + 1, by omega, rfl, rfl, ?_⟩
     simp (disch := (first|exact discB|fail)) only [push_cast, ↓reduceIte, reduceCtorEq, Nat.reduceAdd, Nat.reduceLT, Nat.reduceEqDiff, Nat.reduceLeDiff, Int.reduceAdd, Int.reduceLT, Int.reduceLE, Nat.reduceMul, b2, b8, b26, b27, b28, e1, hil, hPl, hPt, hPd]
    ·obtain rfl : k = w.length := by omega
     repeat' (first|refine nav ?_|(refine g0_ ?_; refine goD ?_)|(with_reducible refine gG ?_ ?_)|((with_reducible refine And.intro (fun h => ?_) (fun h => ?_)) <;> try (exfalso; omega))|(with_reducible refine andG ?_)|(refine And.intro ⟨[_], rfl⟩ ?_)|(refine And.intro ⟨[], by simp only [List.append_nil]⟩ ?_)|(first|(refine ⟨_, _, pc_lift (hofa) (by (simp [idsL, idsE, AV.ids, hidR, hidS, hidA, hidW, hPi, hAi])) _, ?_⟩)|(refine ⟨_, pc_lift (hofa) (by (simp [idsL, idsE, AV.ids, hidR, hidS, hidA, hidW, hPi, hAi])) _, ?_⟩)|(refine ⟨_, fun _ => pc_lift (hofa) (by (simp [idsL, idsE, AV.ids, hidR, hidS, hidA, hidW, hPi, hAi])) _, ?_⟩)|(refine ⟨_, _, pc_lift (hmeet) (by (simp [idsL, idsE, AV.ids, hidR, hidS, hidA, hidW, hPi, hAi])) _, ?_⟩)|(refine ⟨_, pc_lift (hmeet) (by (simp [idsL, idsE, AV.ids, hidR, hidS, hidA, hidW, hPi, hAi])) _, ?_⟩)|(refine ⟨_, fun _ => pc_lift (hmeet) (by (simp [idsL, idsE, AV.ids, hidR, hidS, hidA, hidW, hPi, hAi])) _, ?_⟩))|simp (disch := (first|exact discB|fail)) only [push_cast, ↓reduceIte, reduceCtorEq, Nat.reduceAdd, Nat.reduceLT, Nat.reduceEqDiff, Nat.reduceLeDiff, Int.reduceAdd, Int.reduceLT, Int.reduceLE, Nat.reduceMul, b2, b8, b26, b27, b28, hil, hPl, hPt, hPd])
  ·rw [if_pos h1]
   generalize wR0 sym w = e at *
   unfold nA at *
   generalize kc0 l = RN at *
   generalize ints st = IS at *
   generalize ints ac = IA at *
   generalize ints w = IW at *
   refine wd0 0 42 [.tmp 4, .tmp 5] Tryd.func25 rfl rfl rfl (by simp) ?_
   intro s ⟨a0, a1, hz⟩
   simp only [Nat.zero_add, Nat.reduceAdd] at a1
   clear hz
   repeat' (first|refine nav ?_|(refine g0_ ?_; refine goD ?_)|(with_reducible refine gG ?_ ?_)|((with_reducible refine And.intro (fun h => ?_) (fun h => ?_)) <;> try (exfalso; omega))|(with_reducible refine andG ?_)|(refine And.intro ⟨[_], rfl⟩ ?_)|(refine And.intro ⟨[], by simp only [List.append_nil]⟩ ?_)|(first|(refine ⟨_, _, pc_lift (hck) (by (simp [idsL, idsE, AV.ids, hidR, hidS, hidA, hidW])) _, ?_⟩)|(refine ⟨_, pc_lift (hck) (by (simp [idsL, idsE, AV.ids, hidR, hidS, hidA, hidW])) _, ?_⟩)|(refine ⟨_, fun _ => pc_lift (hck) (by (simp [idsL, idsE, AV.ids, hidR, hidS, hidA, hidW])) _, ?_⟩)|(refine ⟨_, _, pc_lift (hcw) (by (simp [idsL, idsE, AV.ids, hidR, hidS, hidA, hidW])) _, ?_⟩)|(refine ⟨_, pc_lift (hcw) (by (simp [idsL, idsE, AV.ids, hidR, hidS, hidA, hidW])) _, ?_⟩)|(refine ⟨_, fun _ => pc_lift (hcw) (by (simp [idsL, idsE, AV.ids, hidR, hidS, hidA, hidW])) _, ?_⟩))|simp (disch := (first|exact discB|fail)) only [push_cast, ↓reduceIte, reduceCtorEq, Nat.reduceAdd, Nat.reduceLT, Nat.reduceEqDiff, Nat.reduceLeDiff, Int.reduceAdd, Int.reduceLT, Int.reduceLE, Nat.reduceMul, a0, a1, h1])
 ·rw [if_pos h0]
  generalize xp0 sym (rowsV l) st ac = e at *
  unfold nA at *
  generalize kc0 l = RN at *
  generalize ints st = IS at *
  generalize ints ac = IA at *
  generalize ints w = IW at *
  refine wd0 0 42 [.tmp 4, .tmp 5] Tryd.func25 rfl rfl rfl (by simp) ?_
  intro s ⟨a0, a1, hz⟩
  simp only [Nat.zero_add, Nat.reduceAdd] at a1
  clear hz
  repeat' (first|refine nav ?_|(refine g0_ ?_; refine goD ?_)|(with_reducible refine gG ?_ ?_)|((with_reducible refine And.intro (fun h => ?_) (fun h => ?_)) <;> try (exfalso; omega))|(with_reducible refine andG ?_)|(refine And.intro ⟨[_], rfl⟩ ?_)|(refine And.intro ⟨[], by simp only [List.append_nil]⟩ ?_)|(first|(refine ⟨_, _, pc_lift (hck) (by (simp [idsL, idsE, AV.ids, hidR, hidS, hidA, hidW])) _, ?_⟩)|(refine ⟨_, pc_lift (hck) (by (simp [idsL, idsE, AV.ids, hidR, hidS, hidA, hidW])) _, ?_⟩)|(refine ⟨_, fun _ => pc_lift (hck) (by (simp [idsL, idsE, AV.ids, hidR, hidS, hidA, hidW])) _, ?_⟩))|simp (disch := (first|exact discB|fail)) only [push_cast, ↓reduceIte, reduceCtorEq, Nat.reduceAdd, Nat.reduceLT, Nat.reduceEqDiff, Nat.reduceLeDiff, Int.reduceAdd, Int.reduceLT, Int.reduceLE, Nat.reduceMul, a0, a1, h0])
end Go.Proofs
