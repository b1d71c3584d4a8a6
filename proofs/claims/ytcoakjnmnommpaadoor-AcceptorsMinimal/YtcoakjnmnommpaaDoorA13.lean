import Derived.Test.YtcoakjnmnommpaaDoorA7
import Derived.Test.YtcoakjnmnommpaaDoorA11
namespace Go.Proofs
open Go Go.V
set_option linter.unusedVariables false
set_option linter.unusedSimpArgs false
set_option maxHeartbeats 0
def intN (S : List Nat) : List Int := S.map fun t : Nat => (t : Int)
theorem intN_len (S : List Nat) : (intN S).length = S.length := by simp [intN]
theorem qB0 (S : List Nat) (k : Nat) (h : k < S.length) : (intN S).getD k 0 = (S.getD k 0 : Nat) := by simp [intN, h]
theorem kk0 (S : List Nat) (t : Nat) : intN (S ++ [t]) = intN S ++ [(t : Int)] := by simp [intN]
theorem wbj9 {l : List Int} (h : ∀ x ∈ l, 0 ≤ x) : intN (natL l) = l := by
 rw [intN, natL, List.map_map]
 exact (List.map_congr_left fun x hx => Int.toNat_of_nonneg (h x hx)).trans (List.map_id l)
def ky0 (l : List RC) (S : List Nat) (a t : Nat) : List Nat := (List.range t).filter fun t => S.any fun s => (lstC l s a).1.contains (t : Int)
theorem zbV9 (l : List RC) (S : List Nat) (a t : Nat) : ky0 l S a (t + 1) = if (S.any fun s => (lstC l s a).1.contains (t : Int)) = true then ky0 l S a t ++ [t] else ky0 l S a t := by
 rw [ky0, List.range_succ, List.filter_append, ← ky0]
 by_cases h : (S.any fun s => (lstC l s a).1.contains (t : Int)) = true
 ·rw [if_pos h]; congr 1; simp only [List.filter_cons, h, if_pos, List.filter_nil]
 ·rw [if_neg h]
  have h2 : (S.any fun s => (lstC l s a).1.contains (t : Int)) = false := by simpa using h
  simp only [List.filter_cons, h2, List.filter_nil]
  simp
theorem wcr9 (l : List RC) (S : List Nat) (a t : Nat) : (ky0 l S a t).length ≤ t := by
 have := List.length_filter_le (fun t : Nat => S.any fun s => (lstC l s a).1.contains (t : Int)) (List.range t)
 rwa [List.length_range] at this
theorem vcr9 {A : Nat} {l : List RC} {st ac : List Int} (h : OkNv A (rowsV l) st ac) {S : List Nat} (hS : ∀ s ∈ S, s < l.length) {a : Nat} (ha : a < A) : ky0 l S a l.length = stepN (nfOf (rowsV l) st ac) S a := by
 unfold ky0 stepN
 have e : (nfOf (rowsV l) st ac).n = l.length := kb0 l
 rw [e]
 refine List.filter_congr fun t _ => ?_
 rw [Bool.eq_iff_iff, List.any_eq_true, List.any_eq_true]
 have key : ∀ s ∈ S, (lstC l s a).1.contains (t : Int) = (nfOf (rowsV l) st ac).d s a t := fun s hs => by
  show _ = (((rowsV l).getD s []).getD a []).contains (t : Int)
  rw [vy0 l s (hS s hs), vO0 _ a (by rw [h.row (hS s hs)]; exact ha)]; rfl
 constructor
 ·rintro ⟨s, hs, q⟩; exact ⟨s, hs, by rw [← key s hs]; exact q⟩
 ·rintro ⟨s, hs, q⟩; exact ⟨s, hs, by rw [key s hs]; exact q⟩
def anyK (l : List RC) (S : List Nat) (a t k : Nat) : Bool := (S.take k).any fun s => (lstC l s a).1.contains (t : Int)
theorem kcr9 (l : List RC) (S : List Nat) (a t k : Nat) (h : k < S.length) : anyK l S a t (k + 1) = (anyK l S a t k || (lstC l (S.getD k 0) a).1.contains (t : Int)) := by
 rw [anyK, vg0 S 0 k h, List.any_append, ← anyK]; simp
set_option maxRecDepth 100000 in
theorem qcs9 (sym : Int) (zr : Nat) (l : List RC) (c : Option Nat) (zs : Nat) (st : List Int) (cs : Option Nat) (za : Nat) (ac : List Int) (ca : Option Nat) (zf : Nat) (S : List Nat) (cf : Option Nat) (a : Nat)
  (hzr : l = [] ∨ zr = 1) (hzf : S = [] ∨ zf = 1) (hl : l.length ≤ 256) (hSl : S.length ≤ 1000) (ha : a < 256) (hp : ∀ s ∈ S, s < l.length ∧ a < (l.getD s ([], none)).1.length) (hi : ∀ s ∈ S, (lstC l s a).1.length ≤ 140737488355328) (hrl : ∀ s, s < l.length → (l.getD s ([], none)).1.length ≤ 1000) :
  PC Tryd.prog G0 38 [nA sym zr l c zs st cs za ac ca, .sl zf (ints (intN S)) cf, .int .i64 a] (.sl 1 (ints (intN (ky0 l S a l.length))) none) := by
 have hRl := wh0 l
 have hg := fun s h => zw0 l s h
 have hidR : ∀ q, idsE q (kc0 l) = true := fun q => ke0 _ _
 have hFl : (ints (intN S)).length = S.length := by rw [za0, intN_len]
 have hFg : ∀ k, k < S.length → (ints (intN S)).getD k [] = [.int .i64 (S.getD k 0 : Nat)] := fun k hk => by
  rw [wc0 _ _ (by rw [intN_len]; exact hk), qB0 S k hk]
 generalize ints (intN S) = FS at *
 unfold nA
 generalize kc0 l = RN at *
 refine wd0 1 46 [.tmp 6] Tryd.func38 rfl rfl rfl (by simp) ?_
 intro s ⟨a0, a1, a2, hz⟩
 simp only [Nat.zero_add, Nat.reduceAdd] at a1 a2
 clear hz
 repeat' (first|refine nav ?_|(refine g0_ ?_; refine goD ?_)|(with_reducible refine gG ?_ ?_)|((with_reducible refine And.intro (fun h => ?_) (fun h => ?_)) <;> try (exfalso; omega))|(with_reducible refine andG ?_)|(refine And.intro ⟨[_], rfl⟩ ?_)|(refine And.intro ⟨[], by simp only [List.append_nil]⟩ ?_)|fail|simp (disch := (first|exact discB|fail)) only [push_cast, ↓reduceIte, reduceCtorEq, Nat.reduceAdd, Nat.reduceLT, Nat.reduceEqDiff, Nat.reduceLeDiff, Int.reduceAdd, Int.reduceLT, Int.reduceLE, Nat.reduceMul, a0, a1, a2, hRl])
 refine go_loop rfl (fun mz s' H' => ∃ t : Nat, t ≤ l.length ∧ mz = l.length - t ∧ H' = [.row 4 28 [[.int .i64 sym, .sl zr RN c, .sl zs (ints st) cs, .sl za (ints ac) ca]], .row 1 3 (ints (intN (ky0 l S a t)))] ∧ s' 1 = .sl zf FS cf ∧ s' 2 = .int .i64 a ∧ s' 3 = .ptr 0 0 0 1 ∧ s' 7 = .own 1 (ky0 l S a t).length (ky0 l S a t).length none ∧ s' 8 = .int .i64 t) (m := l.length) (by first|exact wa0|fail) (xv0 (t := 7) (sz := 1) (ty := 3) rfl) ⟨0, by omega, by omega, rfl, ?_⟩ ?_
 ·simp (disch := (first|exact discB|fail)) only [push_cast, ↓reduceIte, reduceCtorEq, Nat.reduceAdd, Nat.reduceLT, Nat.reduceEqDiff, Nat.reduceLeDiff, Int.reduceAdd, Int.reduceLT, Int.reduceLE, Nat.reduceMul, a0, a1, a2, hRl]
  rfl
 ·rintro mz s' H' ⟨t, ht, rfl, rfl, b1, b2, b3, b7, b8⟩
  have hll := wcr9 l S a t
  have hml : (ints (intN (ky0 l S a t))).length = (ky0 l S a t).length := by rw [za0, intN_len]
  have et : (ints (intN (ky0 l S a t))).take (ky0 l S a t).length = ints (intN (ky0 l S a t)) := List.take_of_length_le (by omega)
  have ed : (ints (intN (ky0 l S a t))).drop ((ky0 l S a t).length + 1) = [] := List.drop_eq_nil_of_le (by omega)
  rcases Nat.lt_or_ge t l.length with hlt|hge
  ·obtain rfl := hzr.resolve_left (by intro h; rw [h] at hlt; simp at hlt)
   have hsu := zbV9 l S a t
   have hall : anyK l S a t S.length = S.any fun s => (lstC l s a).1.contains (t : Int) := by rw [anyK, List.take_length]
   have hsn := vk0 (intN (ky0 l S a t)) (t : Int)
   rw [← kk0] at hsn
   repeat' (first|refine nav ?_|(refine g0_ ?_; refine goD ?_)|(with_reducible refine gG ?_ ?_)|((with_reducible refine And.intro (fun h => ?_) (fun h => ?_)) <;> try (exfalso; omega))|(with_reducible refine andG ?_)|(refine And.intro ⟨[_], rfl⟩ ?_)|(refine And.intro ⟨[], by simp only [List.append_nil]⟩ ?_)|fail|simp (disch := (first|exact discB|fail)) only [push_cast, ↓reduceIte, reduceCtorEq, Nat.reduceAdd, Nat.reduceLT, Nat.reduceEqDiff, Nat.reduceLeDiff, Int.reduceAdd, Int.reduceLT, Int.reduceLE, Nat.reduceMul, b1, b2, b3, b7, b8, hRl])
   refine go_loop rfl (fun mz s' H' => ∃ k : Nat, k ≤ S.length ∧ mz = S.length - k ∧ H' = [.row 4 28 [[.int .i64 sym, .sl 1 RN c, .sl zs (ints st) cs, .sl za (ints ac) ca]], .row 1 3 (ints (intN (ky0 l S a t)))] ∧ s' 1 = .sl zf FS cf ∧ s' 2 = .int .i64 a ∧ s' 3 = .ptr 0 0 0 1 ∧ s' 7 = .own 1 (ky0 l S a t).length (ky0 l S a t).length none ∧ s' 8 = .int .i64 t ∧ s' 9 = .int .i64 (if anyK l S a t k = true then 1 else 0) ∧ s' 10 = .int .i64 k) (m := S.length) (by first|exact wa0|fail) (Weak.refl _ _) ⟨0, by omega, by omega, rfl, ?_⟩ ?_
   ·simp (disch := (first|exact discB|fail)) only [push_cast, ↓reduceIte, reduceCtorEq, Nat.reduceAdd, Nat.reduceLT, Nat.reduceEqDiff, Nat.reduceLeDiff, Int.reduceAdd, Int.reduceLT, Int.reduceLE, Nat.reduceMul, b1, b2, b3, b7, b8, hRl]
    simp [anyK]
   ·rintro mz s' H' ⟨k, hk, rfl, rfl, b1, b2, b3, b7, b8, b9, b10⟩
    rcases Nat.lt_or_ge k S.length with hltk|hgek
    ·obtain rfl := hzf.resolve_left (by intro h; rw [h] at hltk; simp at hltk)
     have hFk := hFg k hltk
     have hsk := kcr9 l S a t k hltk
     have hm : S.getD k 0 ∈ S := kd0 hltk
     obtain ⟨hn, ha2⟩ := hp _ hm
     have hi1 := hi _ hm
     have e1 := hg _ hn
     have hrl1 := hrl _ hn
     have e2 := xg0 (l.getD (S.getD k 0) ([], none)).1 a ha2
     have hlc : (l.getD (S.getD k 0) ([], none)).1.getD a ([], none) = lstC l (S.getD k 0) a := rfl
     rw [hlc] at e2
     have hh := xdD9 1 (lstC l (S.getD k 0) a).1 (lstC l (S.getD k 0) a).2 t (.inr rfl) hi1
     generalize lstC l (S.getD k 0) a = x at *
     generalize l.getD (S.getD k 0) ([], none) = r at *
     generalize S.getD k 0 = n at *
     have hrl2 := wb0 r.1
     have hidx : ∀ q, idsE q (ints x.1) = true := fun q => qb0 _ _
     unfold rC at e1
     unfold lC at e2
     generalize x.1.contains (t : Int) = bc at *
     generalize anyK l S a t k = bk at *
     cases bc <;> cases bk <;> simp only [↓reduceIte, if_true, if_false, Bool.false_eq_true] at hh b9
     all_goals (repeat' (first|refine nav ?_|(refine g0_ ?_; refine goD ?_)|(with_reducible refine gG ?_ ?_)|((with_reducible refine And.intro (fun h => ?_) (fun h => ?_)) <;> try (exfalso; omega))|(with_reducible refine andG ?_)|(refine And.intro ⟨[_], rfl⟩ ?_)|(refine And.intro ⟨[], by simp only [List.append_nil]⟩ ?_)|(first|(refine ⟨_, _, pc_lift (hh) (by (simp [idsL, idsE, AV.ids, Nat.add_zero])) _, ?_⟩)|(refine ⟨_, pc_lift (hh) (by (simp [idsL, idsE, AV.ids, Nat.add_zero])) _, ?_⟩)|(refine ⟨_, fun _ => pc_lift (hh) (by (simp [idsL, idsE, AV.ids, Nat.add_zero])) _, ?_⟩))|simp (disch := (first|exact discB|fail)) only [push_cast, ↓reduceIte, reduceCtorEq, Nat.reduceAdd, Nat.reduceLT, Nat.reduceEqDiff, Nat.reduceLeDiff, Int.reduceAdd, Int.reduceLT, Int.reduceLE, Nat.reduceMul, b1, b2, b3, b7, b8, b9, b10, hRl, e1, e2, hrl2, hFl, hFk]))
     all_goals refine qa0 (S.length - (k + 1)) (by omega) (by first|exact wa0|fail) ⟨k + 1, by omega, rfl, rfl, ?_⟩
     all_goals rw [hsk]
     all_goals simp (disch := (first|exact discB|fail)) only [push_cast, ↓reduceIte, reduceCtorEq, Nat.reduceAdd, Nat.reduceLT, Nat.reduceEqDiff, Nat.reduceLeDiff, Int.reduceAdd, Int.reduceLT, Int.reduceLE, Nat.reduceMul, b1, b2, b3, b7, b8, b9, b10, hRl, e1, e2, hrl2, hFl, hFk]
     all_goals rfl
    ·obtain rfl : k = S.length := by omega
     rw [hall] at b9
     cases hb : (S.any fun s => (lstC l s a).1.contains (t : Int)) with
     | true =>
      rw [hb, if_pos rfl] at b9
      rw [hb, if_pos rfl] at hsu
      repeat' (first|refine nav ?_|(refine g0_ ?_; refine goD ?_)|(with_reducible refine gG ?_ ?_)|((with_reducible refine And.intro (fun h => ?_) (fun h => ?_)) <;> try (exfalso; omega))|(with_reducible refine andG ?_)|(refine And.intro ⟨[_], rfl⟩ ?_)|(refine And.intro ⟨[], by simp only [List.append_nil]⟩ ?_)|fail|simp (disch := (first|exact discB|fail)) only [push_cast, ↓reduceIte, reduceCtorEq, Nat.reduceAdd, Nat.reduceLT, Nat.reduceEqDiff, Nat.reduceLeDiff, Int.reduceAdd, Int.reduceLT, Int.reduceLE, Nat.reduceMul, b1, b2, b3, b7, b8, b9, b10, hFl, hml, et, ed])
      refine qa0 (l.length - (t + 1)) (by omega) (by first|exact wa0|fail) ⟨t + 1, by omega, rfl, by rw [hsu, ← hsn], ?_⟩
      rw [hsu]
      simp (disch := (first|exact discB|fail)) only [push_cast, ↓reduceIte, reduceCtorEq, Nat.reduceAdd, Nat.reduceLT, Nat.reduceEqDiff, Nat.reduceLeDiff, Int.reduceAdd, Int.reduceLT, Int.reduceLE, Nat.reduceMul, b1, b2, b3, b7, b8, b9, b10, hFl, hml, et, ed]
     | false =>
      rw [hb, if_neg (by simp)] at b9
      rw [hb, if_neg (by simp)] at hsu
      repeat' (first|refine nav ?_|(refine g0_ ?_; refine goD ?_)|(with_reducible refine gG ?_ ?_)|((with_reducible refine And.intro (fun h => ?_) (fun h => ?_)) <;> try (exfalso; omega))|(with_reducible refine andG ?_)|(refine And.intro ⟨[_], rfl⟩ ?_)|(refine And.intro ⟨[], by simp only [List.append_nil]⟩ ?_)|fail|simp (disch := (first|exact discB|fail)) only [push_cast, ↓reduceIte, reduceCtorEq, Nat.reduceAdd, Nat.reduceLT, Nat.reduceEqDiff, Nat.reduceLeDiff, Int.reduceAdd, Int.reduceLT, Int.reduceLE, Nat.reduceMul, b1, b2, b3, b7, b8, b9, b10, hFl, hml, et, ed])
      refine qa0 (l.length - (t + 1)) (by omega) (by first|exact wa0|fail) ⟨t + 1, by omega, rfl, by rw [hsu], ?_⟩
      rw [hsu]
      simp (disch := (first|exact discB|fail)) only [push_cast, ↓reduceIte, reduceCtorEq, Nat.reduceAdd, Nat.reduceLT, Nat.reduceEqDiff, Nat.reduceLeDiff, Int.reduceAdd, Int.reduceLT, Int.reduceLE, Nat.reduceMul, b1, b2, b3, b7, b8, b9, b10, hFl, hml, et, ed]
  ·obtain rfl : t = l.length := by omega
   repeat' (first|refine nav ?_|(refine g0_ ?_; refine goD ?_)|(with_reducible refine gG ?_ ?_)|((with_reducible refine And.intro (fun h => ?_) (fun h => ?_)) <;> try (exfalso; omega))|(with_reducible refine andG ?_)|(refine And.intro ⟨[_], rfl⟩ ?_)|(refine And.intro ⟨[], by simp only [List.append_nil]⟩ ?_)|fail|simp (disch := (first|exact discB|fail)) only [push_cast, ↓reduceIte, reduceCtorEq, Nat.reduceAdd, Nat.reduceLT, Nat.reduceEqDiff, Nat.reduceLeDiff, Int.reduceAdd, Int.reduceLT, Int.reduceLE, Nat.reduceMul, b1, b2, b3, b7, b8, hRl, hml, et])
theorem xbV9 {A : Nat} {zr : Nat} {l : List RC} {c : Option Nat} {zs : Nat} {st : List Int} {cs : Option Nat} {za : Nat} {ac : List Int} {ca : Option Nat} (hzr : l = [] ∨ zr = 1) (h : OkNv A (rowsV l) st ac) (hi : ∀ s a, s < l.length → a < A → (lstC l s a).1.length ≤ 140737488355328) {zf : Nat} {S : List Nat} {cf : Option Nat} (hzf : S = [] ∨ zf = 1) (hS : ∀ s ∈ S, s < l.length) (hSl : S.length ≤ 1000) {a : Nat} (ha : a < A) :
  PC Tryd.prog G0 38 [nA A zr l c zs st cs za ac ca, .sl zf (ints (intN S)) cf, .int .i64 a] (.sl 1 (ints (intN (stepN (nfOf (rowsV l) st ac) S a))) none) := by
 have hn := h.n
 have ha2 := h.a2
 rw [kb0] at hn
 rw [← vcr9 h hS ha]
 exact qcs9 A zr l c zs st cs za ac ca zf S cf a hzr hzf hn hSl (by omega) (fun s hs => ⟨hS s hs, by rw [h.row (hS s hs)]; exact ha⟩) (fun s hs => hi s a (hS s hs) ha) (fun s hs => by rw [h.row hs]; omega)
theorem xcP9 {l : List Int} (h : ∀ x ∈ l, 0 ≤ x) (n : Nat) : (natL l).contains n = l.contains (n : Int) := by
 rw [Bool.eq_iff_iff, List.contains_iff_mem, List.contains_iff_mem, natL, List.mem_map]
 constructor
 ·rintro ⟨x, hx, rfl⟩
  have := h x hx
  rwa [show ((x.toNat : Nat) : Int) = x by omega]
 ·exact fun q => ⟨_, q, Int.toNat_natCast n⟩
end Go.Proofs
