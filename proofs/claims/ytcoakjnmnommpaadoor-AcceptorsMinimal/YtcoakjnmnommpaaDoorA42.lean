import Derived.Test.YtcoakjnmnommpaaDoorA41
namespace Go.Proofs
open Go Go.V Go.RowKit
set_option linter.unusedVariables false
set_option linter.unusedSimpArgs false
set_option maxHeartbeats 0
theorem qI0 (ps : List Bs) : (strs ps).length = ps.length := by simp [strs]
theorem wbl9 (ps : List Bs) (k : Nat) (h : k < ps.length) : (strs ps).getD k [] = [.str (ps.getD k [])] := by simp [strs, h]
theorem xae9 (p : Nat → Bool) (ps : List Bs) : idsE p (strs ps) = true := vr0 _ _ fun x => by simp [idsL, AV.ids]
theorem wdS9 : ∀ (p : Bs), digs p → p.length ≤ 4 → numF 0 p ≤ 9999
 | [], _, _ => by simp [numF]
 | [c], h, _ => by have := h c (by simp); simp only [numF]; omega
 | [c, d], h, _ => by
  have := h c (by simp); have := h d (by simp)
  simp only [numF]; omega
 | [c, d, e], h, _ => by
  have := h c (by simp); have := h d (by simp); have := h e (by simp)
  simp only [numF]; omega
 | [c, d, e, f], h, _ => by
  have := h c (by simp); have := h d (by simp); have := h e (by simp); have := h f (by simp)
  simp only [numF]; omega
 | _ :: _ :: _ :: _ :: _ :: _, _, h => by simp at h
theorem kaj9 {f : Bs} {x : Int} (h : int4 f = some x) : 0 ≤ x ∧ x ≤ 9999 ∧ f.length ≤ 4 := by
 unfold int4 at h
 split at h
 ·rename_i q
  injection h with h; subst h
  exact ⟨qbu9 f 0 (by omega) q.1.2.1, wdS9 f q.1.2.1 q.2, q.2⟩
 ·cases h
theorem xcy9 {n : Int} (h : 0 ≤ n ∧ n ≤ 9999) : wY0 (Lib.itoa n) = (n, true) := by
 have hf : ∀ a b : Fin 100, wY0 (Lib.itoa ((100 * a.1 + b.1 : Nat) : Int)) = (((100 * a.1 + b.1 : Nat) : Int), true) := by decide +kernel
 have := hf ⟨n.toNat / 100, by omega⟩ ⟨n.toNat % 100, by omega⟩
 have e : ((100 * (n.toNat / 100) + n.toNat % 100 : Nat) : Int) = n := by omega
 simp only [e] at this
 exact this
theorem wcy9 {f : Bs} {x : Int} (h : int4 f = some x) : wY0 f = (x, true) := by
 rw [← vay9 h]; exact xcy9 ⟨(kaj9 h).1, (kaj9 h).2.1⟩
theorem qdt9 {f : Bs} {v : Int} (h : Lib.itoa v = f) (h4 : f.length ≤ 4) (h0 : 0 ≤ v) : int4 f = some v := by
 obtain ⟨a, b, _⟩ := vN0 v.toNat v h0 (by omega)
 rw [h] at a b
 rw [int4, if_pos ⟨a, h4⟩, b]
theorem kaN9 : ∀ (l : List Bs) (f : Bs), kl0 (l ++ [f]) = match kl0 l, int4 f with|some xs, some x => some (xs ++ [x])|_, _ => none
 | [], f => by cases h : int4 f <;> simp [kl0, h]
 | g :: l, f => by
  rw [List.cons_append, kl0, kaN9 l f, kl0]
  cases int4 g <;> cases kl0 l <;> cases int4 f <;> simp
theorem qaO9 : ∀ (l r : List Bs), kl0 l = none → kl0 (l ++ r) = none
 | [], r, h => by cases h
 | g :: l, r, h => by
  rw [List.cons_append, kl0]
  rw [kl0] at h
  cases hg : int4 g with
  | none => simp
  | some x =>
   rw [hg] at h
   cases hl : kl0 l with
   | none => rw [qaO9 l r hl]
   | some xs => rw [hl] at h; simp at h
theorem qbY9 {l : List Bs} {k : Nat} {xs : List Int} (hk : k < l.length) (h : kl0 (l.take k) = some xs) : (∀ x, int4 (l.getD k []) = some x → kl0 (l.take (k + 1)) = some (xs ++ [x])) ∧ (int4 (l.getD k []) = none → kl0 l = none) := by
 have e := kaN9 (l.take k) (l.getD k [])
 rw [← vg0 l [] k hk, h] at e
 refine ⟨fun x hx => by rw [e, hx], fun hx => ?_⟩
 rw [hx] at e
 rw [← List.take_append_drop (k + 1) l]
 exact qaO9 _ _ e
theorem vbl9 : ∀ {l : List Bs} {xs : List Int}, kl0 l = some xs → xs.length = l.length := fun h => by
 have := congrArg List.length (wO0 h)
 simpa using this
theorem zbY9 (l : Bs) {v : Int} (h : Lib.atoiAll l = .ok v) : -9223372036854775808 ≤ v ∧ v ≤ 9223372036854775807 := by
 unfold Lib.atoiAll at h
 split at h
 ·cases h
 ·rename_i c r
  simp only at h
  split at h
  ·cases h
  ·cases h
  ·rename_i u _
   split at h
   ·cases h
   ·split at h
    ·cases h
    ·rename_i h1 h2
     injection h with h
     subst h
     by_cases hn : c.toNat = 45
     ·rw [if_pos hn]
      have : ¬ 9223372036854775808 < u := fun q => h2 ⟨hn, q⟩
      omega
     ·rw [if_neg hn]
      have : ¬ 9223372036854775808 ≤ u := fun q => h1 ⟨hn, q⟩
      omega
theorem zcV9 (l : Bs) : -9223372036854775808 ≤ (wY0 l).1 ∧ (wY0 l).1 ≤ 9223372036854775807 := by
 unfold wY0
 split
 ·rename_i v h; exact zbY9 l h
 ·simp
 ·unfold Lib.atoiSat
  split <;> simp
def kbl9 (l : List Bs) : AV := match kl0 l with|some xs => .tup [.sl 1 (ints xs) (some xs.length), .bool true]|none => .tup [.sl 0 [] (some 0), .bool false]
set_option maxRecDepth 100000 in
theorem qbm9 (z : Nat) (l : List Bs) (c : Option Nat) (hz : l = [] ∨ z = 1) (hl : l.length ≤ 1000000) (hb : ∀ f ∈ l, f.length ≤ 1000000) : PC Tryd.prog G0 47 [.sl z (strs l) c] (kbl9 l) := by
 have hSl := qI0 l
 have hidS : ∀ p, idsE p (strs l) = true := fun p => xae9 _ _
 have hno : kl0 l = none → kbl9 l = .tup [.sl 0 [] (some 0), .bool false] := fun h => by rw [kbl9, h]
 have hyes : ∀ xs, kl0 l = some xs → kbl9 l = .tup [.sl 1 (ints xs) (some xs.length), .bool true] := fun xs h => by rw [kbl9, h]
 generalize kbl9 l = R at *
 refine wd0 1 43 [.tmp 2, .tmp 3] Tryd.func47 rfl rfl rfl (by simp) ?_
 intro s ⟨a0, hz⟩
 clear hz
 repeat' (first|refine nav ?_|(refine g0_ ?_; refine goD ?_)|(with_reducible refine gG ?_ ?_)|((with_reducible refine And.intro (fun h => ?_) (fun h => ?_)) <;> try (exfalso; omega))|(with_reducible refine andG ?_)|(refine And.intro ⟨[_], rfl⟩ ?_)|(refine And.intro ⟨[], by simp only [List.append_nil]⟩ ?_)|fail|simp (disch := (first|exact discB|fail)) only [push_cast, ↓reduceIte, reduceCtorEq, Nat.reduceAdd, Nat.reduceLT, Nat.reduceEqDiff, Nat.reduceLeDiff, Int.reduceAdd, Int.reduceLT, Int.reduceLE, Nat.reduceMul, a0, hSl])
 refine go_loop rfl (fun mz s' H' => ∃ (k : Nat) (xs : List Int), k ≤ l.length ∧ mz = l.length - k ∧ kl0 (l.take k) = some xs ∧ H' = [.row 1 3 (ints xs)] ∧ s' 2 = .own 0 k k none ∧ s' 8 = .sl z (strs l) c ∧ s' 9 = .int .i64 l.length ∧ s' 10 = .int .i64 k) (m := l.length) (by first|exact wa0|fail) (xv0 (t := 2) (sz := 1) (ty := 3) rfl) ⟨0, [], by omega, by omega, rfl, rfl, ?_⟩ ?_
 ·simp (disch := (first|exact discB|fail)) only [push_cast, ↓reduceIte, reduceCtorEq, Nat.reduceAdd, Nat.reduceLT, Nat.reduceEqDiff, Nat.reduceLeDiff, Int.reduceAdd, Int.reduceLT, Int.reduceLE, Nat.reduceMul, a0, hSl]
 ·rintro mz s' H' ⟨k, xs, hk, rfl, hxs, rfl, b2, b8, b9, b10⟩
  have hxl := vbl9 hxs
  rw [List.length_take, Nat.min_eq_left hk] at hxl
  have hil := za0 xs
  rcases Nat.lt_or_ge k l.length with hlt|hge
  ·obtain rfl := hz.resolve_left (by intro h; rw [h] at hlt; simp at hlt)
   have e1 := wbl9 l k hlt
   have hnx := qbY9 hlt hxs
   have hfl := hb _ (kd0 (d := []) hlt)
   have hat := fun H => xdH9 H (l.getD k []) (by omega)
   have hia := @wcy9 (l.getD k [])
   have hio := fun v => @qdt9 (l.getD k []) v
   have hsn := fun v => vk0 xs v
   have hids : ∀ p, idsE p (ints xs) = true := fun p => qb0 _ _
   generalize l.getD k [] = f at *
   generalize hav : wY0 f = av at *
   obtain ⟨v, ok⟩ := av
   have hvb : -9223372036854775808 ≤ v ∧ v ≤ 9223372036854775807 := by have := zcV9 f; rw [hav] at this; exact this
   have hI := fun H => qda9 H v hvb.1 hvb.2
   have hbad : int4 f = none → R = .tup [.sl 0 [] (some 0), .bool false] := fun h => hno (hnx.2 h)
   have hgood : ∀ x, int4 f = some x → ok = true ∧ v = x := fun x h => by
    have := hia h; injection this with h1 h2; exact ⟨h2, h1⟩
   have hn4 : (¬ (ok = true ∧ f.length ≤ 4 ∧ Lib.itoa v = f ∧ 0 ≤ v)) → int4 f = none := fun h => by
    cases h4 : int4 f with
    | none => rfl
    | some x =>
     obtain ⟨rfl, rfl⟩ := hgood x h4
     exact absurd ⟨rfl, (kaj9 h4).2.2, vay9 h4, (kaj9 h4).1⟩ h
   cases ok with
   | false =>
    have hR := hbad (hn4 (by simp))
    rw [hR]
    repeat' (first|refine nav ?_|(refine g0_ ?_; refine goD ?_)|(with_reducible refine gG ?_ ?_)|((with_reducible refine And.intro (fun h => ?_) (fun h => ?_)) <;> try (exfalso; omega))|(with_reducible refine andG ?_)|(refine And.intro ⟨[_], rfl⟩ ?_)|(refine And.intro ⟨[], by simp only [List.append_nil]⟩ ?_)|(first|(refine ⟨_, _, hat _, ?_⟩)|(refine ⟨_, hat _, ?_⟩)|(refine ⟨_, fun _ => hat _, ?_⟩))|simp (disch := (first|exact discB|fail)) only [push_cast, ↓reduceIte, reduceCtorEq, Nat.reduceAdd, Nat.reduceLT, Nat.reduceEqDiff, Nat.reduceLeDiff, Int.reduceAdd, Int.reduceLT, Int.reduceLE, Nat.reduceMul, b2, b8, b9, b10, e1, hSl, errA, ints_nil])
    refine ⟨.top, ?_⟩
    repeat' (first|refine nav ?_|(refine g0_ ?_; refine goD ?_)|(with_reducible refine gG ?_ ?_)|((with_reducible refine And.intro (fun h => ?_) (fun h => ?_)) <;> try (exfalso; omega))|(with_reducible refine andG ?_)|(refine And.intro ⟨[_], rfl⟩ ?_)|(refine And.intro ⟨[], by simp only [List.append_nil]⟩ ?_)|(first|(refine ⟨_, _, hat _, ?_⟩)|(refine ⟨_, hat _, ?_⟩)|(refine ⟨_, fun _ => hat _, ?_⟩))|simp (disch := (first|exact discB|fail)) only [push_cast, ↓reduceIte, reduceCtorEq, Nat.reduceAdd, Nat.reduceLT, Nat.reduceEqDiff, Nat.reduceLeDiff, Int.reduceAdd, Int.reduceLT, Int.reduceLE, Nat.reduceMul, b2, b8, b9, b10, e1, hSl, errA, ints_nil])
   | true =>
    by_cases c1 : 4 < f.length
    ·have hR := hbad (hn4 (by rintro ⟨_, q, _⟩; omega))
     rw [hR]
     have c1' : (4 : Int) < f.length := by omega
     repeat' (first|refine nav ?_|(refine g0_ ?_; refine goD ?_)|(with_reducible refine gG ?_ ?_)|((with_reducible refine And.intro (fun h => ?_) (fun h => ?_)) <;> try (exfalso; omega))|(with_reducible refine andG ?_)|(refine And.intro ⟨[_], rfl⟩ ?_)|(refine And.intro ⟨[], by simp only [List.append_nil]⟩ ?_)|(first|(refine ⟨_, _, hat _, ?_⟩)|(refine ⟨_, hat _, ?_⟩)|(refine ⟨_, fun _ => hat _, ?_⟩))|simp (disch := (first|exact discB|fail)) only [push_cast, ↓reduceIte, reduceCtorEq, Nat.reduceAdd, Nat.reduceLT, Nat.reduceEqDiff, Nat.reduceLeDiff, Int.reduceAdd, Int.reduceLT, Int.reduceLE, Nat.reduceMul, b2, b8, b9, b10, e1, hSl, errA, ints_nil, c1'])
     refine ⟨.top, ?_⟩
     repeat' (first|refine nav ?_|(refine g0_ ?_; refine goD ?_)|(with_reducible refine gG ?_ ?_)|((with_reducible refine And.intro (fun h => ?_) (fun h => ?_)) <;> try (exfalso; omega))|(with_reducible refine andG ?_)|(refine And.intro ⟨[_], rfl⟩ ?_)|(refine And.intro ⟨[], by simp only [List.append_nil]⟩ ?_)|(first|(refine ⟨_, _, hat _, ?_⟩)|(refine ⟨_, hat _, ?_⟩)|(refine ⟨_, fun _ => hat _, ?_⟩))|simp (disch := (first|exact discB|fail)) only [push_cast, ↓reduceIte, reduceCtorEq, Nat.reduceAdd, Nat.reduceLT, Nat.reduceEqDiff, Nat.reduceLeDiff, Int.reduceAdd, Int.reduceLT, Int.reduceLE, Nat.reduceMul, b2, b8, b9, b10, e1, hSl, errA, ints_nil, c1'])
    ·have c1' : ¬ (4 : Int) < f.length := by omega
     by_cases c2 : Lib.itoa v = f
     ·by_cases c3 : v < 0
      ·have hR := hbad (hn4 (by rintro ⟨_, _, _, q⟩; omega))
       rw [hR]
       repeat' (first|refine nav ?_|(refine g0_ ?_; refine goD ?_)|(with_reducible refine gG ?_ ?_)|((with_reducible refine And.intro (fun h => ?_) (fun h => ?_)) <;> try (exfalso; omega))|(with_reducible refine andG ?_)|(refine And.intro ⟨[_], rfl⟩ ?_)|(refine And.intro ⟨[], by simp only [List.append_nil]⟩ ?_)|(first|(refine ⟨_, _, hat _, ?_⟩)|(refine ⟨_, hat _, ?_⟩)|(refine ⟨_, fun _ => hat _, ?_⟩)|(refine ⟨_, _, hI _, ?_⟩)|(refine ⟨_, hI _, ?_⟩)|(refine ⟨_, fun _ => hI _, ?_⟩))|simp (disch := (first|exact discB|fail)) only [push_cast, ↓reduceIte, reduceCtorEq, Nat.reduceAdd, Nat.reduceLT, Nat.reduceEqDiff, Nat.reduceLeDiff, Int.reduceAdd, Int.reduceLT, Int.reduceLE, Nat.reduceMul, b2, b8, b9, b10, e1, hSl, errA, ints_nil, c1', c2, c3])
      ·have hx := hnx.1 v (hio v c2 (by omega) (by omega))
       repeat' (first|refine nav ?_|(refine g0_ ?_; refine goD ?_)|(with_reducible refine gG ?_ ?_)|((with_reducible refine And.intro (fun h => ?_) (fun h => ?_)) <;> try (exfalso; omega))|(with_reducible refine andG ?_)|(refine And.intro ⟨[_], rfl⟩ ?_)|(refine And.intro ⟨[], by simp only [List.append_nil]⟩ ?_)|(first|(refine ⟨_, _, hat _, ?_⟩)|(refine ⟨_, hat _, ?_⟩)|(refine ⟨_, fun _ => hat _, ?_⟩)|(refine ⟨_, _, hI _, ?_⟩)|(refine ⟨_, hI _, ?_⟩)|(refine ⟨_, fun _ => hI _, ?_⟩))|simp (disch := (first|exact discB|fail)) only [push_cast, ↓reduceIte, reduceCtorEq, Nat.reduceAdd, Nat.reduceLT, Nat.reduceEqDiff, Nat.reduceLeDiff, Int.reduceAdd, Int.reduceLT, Int.reduceLE, Nat.reduceMul, b2, b8, b9, b10, e1, hSl, errA, ints_nil, c1', c2, c3, hil, hxl])
       refine qa0 (l.length - (k + 1)) (by omega) (by first|exact wa0|fail) ⟨k + 1, xs ++ [v], by omega, rfl, hx, by rw [← hsn], ?_⟩
       simp (disch := (first|exact discB|fail)) only [push_cast, ↓reduceIte, reduceCtorEq, Nat.reduceAdd, Nat.reduceLT, Nat.reduceEqDiff, Nat.reduceLeDiff, Int.reduceAdd, Int.reduceLT, Int.reduceLE, Nat.reduceMul, b2, b8, b9, b10, e1, hSl, errA, ints_nil, c1', c2, c3, hil, hxl]
     ·have hR := hbad (hn4 (by rintro ⟨_, _, q, _⟩; exact c2 q))
      rw [hR]
      repeat' (first|refine nav ?_|(refine g0_ ?_; refine goD ?_)|(with_reducible refine gG ?_ ?_)|((with_reducible refine And.intro (fun h => ?_) (fun h => ?_)) <;> try (exfalso; omega))|(with_reducible refine andG ?_)|(refine And.intro ⟨[_], rfl⟩ ?_)|(refine And.intro ⟨[], by simp only [List.append_nil]⟩ ?_)|(first|(refine ⟨_, _, hat _, ?_⟩)|(refine ⟨_, hat _, ?_⟩)|(refine ⟨_, fun _ => hat _, ?_⟩)|(refine ⟨_, _, hI _, ?_⟩)|(refine ⟨_, hI _, ?_⟩)|(refine ⟨_, fun _ => hI _, ?_⟩))|simp (disch := (first|exact discB|fail)) only [push_cast, ↓reduceIte, reduceCtorEq, Nat.reduceAdd, Nat.reduceLT, Nat.reduceEqDiff, Nat.reduceLeDiff, Int.reduceAdd, Int.reduceLT, Int.reduceLE, Nat.reduceMul, b2, b8, b9, b10, e1, hSl, errA, ints_nil, c1', c2])
  ·obtain rfl : l.length = k := by omega
   rw [List.take_length] at hxs
   rw [hyes xs hxs]
   have hcl := fun H hb => xaj9 0 l.length l.length 3 (ints xs) none H hb (by omega) (Nat.le_refl _)
   have hids : ∀ p, idsE p (ints xs) = true := fun p => qb0 _ _
   repeat' (first|refine nav ?_|(refine g0_ ?_; refine goD ?_)|(with_reducible refine gG ?_ ?_)|((with_reducible refine And.intro (fun h => ?_) (fun h => ?_)) <;> try (exfalso; omega))|(with_reducible refine andG ?_)|(refine And.intro ⟨[_], rfl⟩ ?_)|(refine And.intro ⟨[], by simp only [List.append_nil]⟩ ?_)|(first|(refine ⟨_, _, hcl _ rfl, ?_⟩)|(refine ⟨_, hcl _ rfl, ?_⟩)|(refine ⟨_, fun _ => hcl _ rfl, ?_⟩))|simp (disch := (first|exact discB|fail)) only [push_cast, ↓reduceIte, reduceCtorEq, Nat.reduceAdd, Nat.reduceLT, Nat.reduceEqDiff, Nat.reduceLeDiff, Int.reduceAdd, Int.reduceLT, Int.reduceLE, Nat.reduceMul, b2, b8, b9, b10, hil, hxl])
end Go.Proofs
