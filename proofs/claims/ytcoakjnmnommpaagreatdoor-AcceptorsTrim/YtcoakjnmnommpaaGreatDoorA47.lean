import Derived.Test.YtcoakjnmnommpaaGreatDoorA46
namespace Go.Proofs
open Go Go.V Go.RowKit
set_option linter.unusedVariables false
set_option linter.unusedSimpArgs false
set_option maxHeartbeats 0
theorem qbP9 : ∀ {l : List Bs} {xs : List Int}, zo0 l = some xs → ∀ x ∈ xs, 0 ≤ x ∧ x ≤ 9999
 | [], xs, h, x, hx => by simp only [zo0, Option.some.injEq] at h; subst h; cases hx
 | f :: r, xs, h, x, hx => by
  unfold zo0 at h
  split at h
  ·rename_i y ys h1 h2
   simp only [Option.some.injEq] at h
   subst h
   rcases List.mem_cons.1 hx with rfl|hx
   ·exact ⟨(kaj9 h1).1, (kaj9 h1).2.1⟩
   ·exact qbP9 h2 x hx
  ·cases h
theorem wdd9 {f : Bs} {x : List Int × Bool} (h : wW0 f = some x) : x.1.length ≤ f.length := by
 unfold wW0 at h
 split at h
 ·cases h
 ·rename_i row q
  have h1 := kbn9 q
  have h2 := wH0 32 f
  rw [List.length_tail] at h1
  split at h
  ·injection h with h; subst h; simp only; omega
  ·split at h
   ·injection h with h; subst h; simp only; omega
   ·cases h
theorem zbP9 : ∀ {l : List Bs} {rows : List (List Int × Bool)} {B : Nat}, qq0 l = some rows → (∀ f ∈ l, f.length ≤ B) → ∀ r ∈ rows, r.1.length ≤ B
 | [], rows, B, h, _, r, hr => by simp only [qq0, Option.some.injEq] at h; subst h; cases hr
 | p :: l, rows, B, h, hb, r, hr => by
  unfold qq0 at h
  split at h
  ·rename_i x xs h1 h2
   injection h with h; subst h
   rcases List.mem_cons.1 hr with rfl|hr
   ·exact Nat.le_trans (wdd9 h1) (hb _ List.mem_cons_self)
   ·exact zbP9 h2 (fun f hf => hb f (List.mem_cons_of_mem _ hf)) r hr
  ·cases h
theorem vdC9 (rows : List (List Int × Bool)) (s : Nat) (h : s < rows.length) : (lcP rows).getD s ([], none) = ((rows.getD s ([], false)).1, some (rows.getD s ([], false)).1.length) := by simp [lcP, h]
theorem kcH9 {H : List Blk} {n : Nat} {rows : List (List Int × Bool)} (h2 : H[2]? = some (.row 1 27 (rowL (lcP rows)))) (h3 : H[3]? = some (.row 1 4 (kd0 (acP rows)))) (A : Int) (hn : rows.length = n) (hb : n ≤ 65536) (hr : ∀ r ∈ rows, r.1.length ≤ 65536) :
  qe0 Tryz.prog G0 21 [.agg [.int .i64 A, .own 2 n n none, .own 3 n n none]] H (.int .i64 (vl0 A (vm0 (lcP rows)) rows.length)) H := by
 subst hn
 have hc := kcw9 A 1 (lcP rows) none 1 (acP rows) none (.inr rfl) (by rw [xaF9]; omega) (by rw [waF9]; omega) (fun s hs => by
  rw [xaF9] at hs
  rw [vdC9 _ _ hs]
  have := hr _ (qd0 (d := ([], false)) hs)
  simp only; omega)
 rw [waF9] at hc
 have hl1 : (rowL (lcP rows)).length = rows.length := by rw [zc0, xaF9]
 have hl2 : (kd0 (acP rows)).length = rows.length := by rw [xg0, waF9]
 have e1 : (rowL (lcP rows)).take rows.length = rowL (lcP rows) := List.take_of_length_le (by omega)
 have e2 : (kd0 (acP rows)).take rows.length = kd0 (acP rows) := List.take_of_length_le (by omega)
 have o1 : okC H 1 (.own 2 rows.length rows.length none) = true := qcr9 (c := none) h2 hl1.symm hl1.symm (vf0 _ _)
 have o2 : okC H 1 (.own 3 rows.length rows.length none) = true := qcr9 (c := none) h3 hl2.symm hl2.symm (zi0 _ _)
 have q1 : qi0 H 1 (.own 2 rows.length rows.length none) = .sl 1 (rowL (lcP rows)) none := zaz9 h2 hl1.symm hl1.symm
 have q2 : qi0 H 1 (.own 3 rows.length rows.length none) = .sl 1 (kd0 (acP rows)) none := zaz9 h3 hl2.symm hl2.symm
 refine wcn9 1 ?_ ?_ hc rfl
 ·simp only [List.all_cons, List.all_nil, okA, o1, o2, Bool.and_true]; rfl
 ·simp only [List.map_cons, List.map_nil, wv0, q1, q2]; rfl
theorem zbp9 (f : Bs) (r : List Bs) : strs (f :: r) = [.str f] :: strs r := rfl
set_option maxRecDepth 100000 in
theorem kbB9 (tx : Bs) : PC Tryz.prog G0 50 [.str tx] (parV tx) := by
 by_cases hlen : 65536 < tx.length
 ·rw [parV, if_pos hlen]
  have hlen' : (65536 : Int) < tx.length := by omega
  unfold dA0
  refine vd0 1 130 [.cell 2 47, .tmp 3] Tryz.func50 rfl rfl rfl (by simp) ?_
  intro s ⟨a0, hz⟩
  clear hz
  repeat' (first|(first|refine nav ?_|(refine g0_ ?_; first|refine wa0 (dr := allQ) (p := [1, 1, 1, 1, 0, 0, 1, 1, 0, 0, 1, 0, 1, 1, 1, 1, 1, 1, 1, 1]) [(104, 10), (105, 104), (107, 106), (108, 107), (112, 10), (110, 109)] [(103, some 100), (111, some 105), (100, some 103), (105, some 111)] [] rfl rfl mixed (by kernel_rfl) ?_|refine goD ?_))|(with_reducible refine gG ?_ ?_)|((with_reducible refine And.intro (fun h => ?_) (fun h => ?_)) <;> try (exfalso; omega))|(with_reducible refine andG ?_)|fail|simp (disch := (first|exact za0|fail)) only [push_cast, simprocAttr, a0, hlen'])
 ·rw [parV, if_neg hlen]
  have hlen' : ¬ (65536 : Int) < tx.length := by omega
  have hcut := qbB9 tx [10] (by omega) (by simp)
  have hpo : kam9 tx = if (xD0 tx [10]).2 = true then zac9 (splitC 10 (xD0 tx [10]).1) else none := by
   by_cases h : tx.getLast? = some 10
   ·rw [vcH9 h, kam9, if_pos h, if_pos rfl]
   ·rw [qdk9 h, kam9, if_neg h]; rfl
  have hcl : (xD0 tx [10]).1.length ≤ tx.length := by
   by_cases h : tx.getLast? = some 10
   ·rw [vcH9 h]; simp
   ·rw [qdk9 h]; exact Nat.le_refl _
  rw [hpo]
  generalize xD0 tx [10] = cu at *
  obtain ⟨t, ended⟩ := cu
  simp only at hcut hcl ⊢
  clear hpo
  have hLl := wH0 10 t
  have hLp := xK0 10 t
  have hsp1 := fun H => wbA9 H t [10] (by omega) (by simp)
  rw [var9] at hsp1
  have hno := @qbp9 (splitC 10 t)
  have hyes := @vce9 (splitC 10 t)
  generalize hL : splitC 10 t = L at *
  obtain ⟨f0, Lr, rfl⟩ := List.exists_cons_of_ne_nil (show L ≠ [] from hL ▸ xs0 10 t)
  simp only [List.headD_cons, List.tail_cons, List.length_cons, Nat.add_sub_cancel] at hno hyes
  have hf0 := hLp f0 List.mem_cons_self
  have hFl := wH0 32 f0
  have hFp := xK0 32 f0
  have hsp2 := fun H => wbA9 H f0 [32] (by omega) (by simp)
  rw [var9] at hsp2
  generalize hF : splitC 32 f0 = F at *
  obtain ⟨w0, Wr, rfl⟩ := List.exists_cons_of_ne_nil (show F ≠ [] from hF ▸ xs0 32 f0)
  simp only [List.headD_cons, List.tail_cons] at hno hyes
  have hnum := zbo9 1 Wr (some Wr.length) (.inr rfl) (by simp only [List.length_cons] at hFl; omega) (fun p hp => by have := hFp p (List.mem_cons_of_mem _ hp); omega)
  rw [zbp9] at hsp1 hsp2
  have hS1 := kJ0 Lr
  have hS2 := kJ0 Wr
  have hidL : ∀ p, idsE p (strs Lr) = true := fun p => wad9 _ _
  have hidW : ∀ p, idsE p (strs Wr) = true := fun p => wad9 _ _
  unfold qbo9 at hnum
  unfold dA0 at *
  cases hi : zo0 Wr with
  | none =>
   rw [hi] at hnum
   have hn := hno (by rw [hi]; rintro ⟨A, n, h, _⟩; cases h)
   rw [hn]
   have hb : parO (if ended = true then (none : Option (Int × List (List Int × Bool))) else none) = .tup [dA0, .int .i64 4] := by cases ended <;> rfl
   rw [hb]
   unfold dA0
   cases ended with
   | true =>
    refine vd0 1 130 [.cell 2 47, .tmp 3] Tryz.func50 rfl rfl rfl (by simp) ?_
    intro s ⟨a0, hz⟩
    clear hz
    repeat' (first|(first|refine nav ?_|(refine g0_ ?_; first|refine wa0 (dr := allQ) (p := [1, 1, 1, 1, 0, 0, 1, 1, 0, 0, 1, 0, 1, 1, 1, 1, 1, 1, 1, 1]) [(104, 10), (105, 104), (107, 106), (108, 107), (112, 10), (110, 109)] [(103, some 100), (111, some 105), (100, some 103), (105, some 111)] [] rfl rfl mixed (by kernel_rfl) ?_|refine goD ?_))|(with_reducible refine gG ?_ ?_)|((with_reducible refine And.intro (fun h => ?_) (fun h => ?_)) <;> try (exfalso; omega))|(with_reducible refine andG ?_)|(first|(refine ⟨_, _, qa0 (hcut) (by (simp [idsL, idsE, AV.ids, hidW, hidL])) _, ?_⟩)|(refine ⟨_, qa0 (hcut) (by (simp [idsL, idsE, AV.ids, hidW, hidL])) _, ?_⟩)|(refine ⟨_, fun _ => qa0 (hcut) (by (simp [idsL, idsE, AV.ids, hidW, hidL])) _, ?_⟩)|(refine ⟨_, _, hsp1 _, ?_⟩)|(refine ⟨_, hsp1 _, ?_⟩)|(refine ⟨_, fun _ => hsp1 _, ?_⟩)|(refine ⟨_, _, hsp2 _, ?_⟩)|(refine ⟨_, hsp2 _, ?_⟩)|(refine ⟨_, fun _ => hsp2 _, ?_⟩)|(refine ⟨_, _, qa0 (hnum) (by (simp [idsL, idsE, AV.ids, hidW, hidL])) _, ?_⟩)|(refine ⟨_, qa0 (hnum) (by (simp [idsL, idsE, AV.ids, hidW, hidL])) _, ?_⟩)|(refine ⟨_, fun _ => qa0 (hnum) (by (simp [idsL, idsE, AV.ids, hidW, hidL])) _, ?_⟩))|simp (disch := (first|exact za0|fail)) only [push_cast, simprocAttr, a0, hlen', hS1, hS2])
   | false =>
    refine vd0 1 130 [.cell 2 47, .tmp 3] Tryz.func50 rfl rfl rfl (by simp) ?_
    intro s ⟨a0, hz⟩
    clear hz
    repeat' (first|(first|refine nav ?_|(refine g0_ ?_; first|refine wa0 (dr := allQ) (p := [1, 1, 1, 1, 0, 0, 1, 1, 0, 0, 1, 0, 1, 1, 1, 1, 1, 1, 1, 1]) [(104, 10), (105, 104), (107, 106), (108, 107), (112, 10), (110, 109)] [(103, some 100), (111, some 105), (100, some 103), (105, some 111)] [] rfl rfl mixed (by kernel_rfl) ?_|refine goD ?_))|(with_reducible refine gG ?_ ?_)|((with_reducible refine And.intro (fun h => ?_) (fun h => ?_)) <;> try (exfalso; omega))|(with_reducible refine andG ?_)|(first|(refine ⟨_, _, qa0 (hcut) (by (simp [idsL, idsE, AV.ids, hidW, hidL])) _, ?_⟩)|(refine ⟨_, qa0 (hcut) (by (simp [idsL, idsE, AV.ids, hidW, hidL])) _, ?_⟩)|(refine ⟨_, fun _ => qa0 (hcut) (by (simp [idsL, idsE, AV.ids, hidW, hidL])) _, ?_⟩)|(refine ⟨_, _, hsp1 _, ?_⟩)|(refine ⟨_, hsp1 _, ?_⟩)|(refine ⟨_, fun _ => hsp1 _, ?_⟩)|(refine ⟨_, _, hsp2 _, ?_⟩)|(refine ⟨_, hsp2 _, ?_⟩)|(refine ⟨_, fun _ => hsp2 _, ?_⟩)|(refine ⟨_, _, qa0 (hnum) (by (simp [idsL, idsE, AV.ids, hidW, hidL])) _, ?_⟩)|(refine ⟨_, qa0 (hnum) (by (simp [idsL, idsE, AV.ids, hidW, hidL])) _, ?_⟩)|(refine ⟨_, fun _ => qa0 (hnum) (by (simp [idsL, idsE, AV.ids, hidW, hidL])) _, ?_⟩))|simp (disch := (first|exact za0|fail)) only [push_cast, simprocAttr, a0, hlen', hS1, hS2])
  | some size =>
   rw [hi] at hnum
   have hb : zac9 (f0 :: Lr) = none → parO (if ended = true then zac9 (f0 :: Lr) else none) = .tup [.agg [.int .i64 0, .sl 0 [] (some 0), .sl 0 [] (some 0)], .int .i64 4] := fun h => by rw [h]; cases ended <;> rfl
   have hil := ka0 size
   have hids : ∀ p, idsE p (ints size) = true := fun p => va0 _ _
   have hg := kc0 size
   have hbs : ∀ x ∈ size, 0 ≤ x ∧ x ≤ 9999 := qbP9 hi
   cases ended with
   | false =>
    show PC _ _ _ _ (parO none)
    unfold parO dA0
    refine vd0 1 130 [.cell 2 47, .tmp 3] Tryz.func50 rfl rfl rfl (by simp) ?_
    intro s ⟨a0, hz⟩
    clear hz
    repeat' (first|(first|refine nav ?_|(refine g0_ ?_; first|refine wa0 (dr := allQ) (p := [1, 1, 1, 1, 0, 0, 1, 1, 0, 0, 1, 0, 1, 1, 1, 1, 1, 1, 1, 1]) [(104, 10), (105, 104), (107, 106), (108, 107), (112, 10), (110, 109)] [(103, some 100), (111, some 105), (100, some 103), (105, some 111)] [] rfl rfl mixed (by kernel_rfl) ?_|refine goD ?_))|(with_reducible refine gG ?_ ?_)|((with_reducible refine And.intro (fun h => ?_) (fun h => ?_)) <;> try (exfalso; omega))|(with_reducible refine andG ?_)|(first|(refine ⟨_, _, qa0 (hcut) (by (simp [idsL, idsE, AV.ids, hidW, hidL, hids])) _, ?_⟩)|(refine ⟨_, qa0 (hcut) (by (simp [idsL, idsE, AV.ids, hidW, hidL, hids])) _, ?_⟩)|(refine ⟨_, fun _ => qa0 (hcut) (by (simp [idsL, idsE, AV.ids, hidW, hidL, hids])) _, ?_⟩)|(refine ⟨_, _, hsp1 _, ?_⟩)|(refine ⟨_, hsp1 _, ?_⟩)|(refine ⟨_, fun _ => hsp1 _, ?_⟩)|(refine ⟨_, _, hsp2 _, ?_⟩)|(refine ⟨_, hsp2 _, ?_⟩)|(refine ⟨_, fun _ => hsp2 _, ?_⟩)|(refine ⟨_, _, qa0 (hnum) (by (simp [idsL, idsE, AV.ids, hidW, hidL, hids])) _, ?_⟩)|(refine ⟨_, qa0 (hnum) (by (simp [idsL, idsE, AV.ids, hidW, hidL, hids])) _, ?_⟩)|(refine ⟨_, fun _ => qa0 (hnum) (by (simp [idsL, idsE, AV.ids, hidW, hidL, hids])) _, ?_⟩))|simp (disch := (first|exact za0|fail)) only [push_cast, simprocAttr, a0, hlen', hS1, hS2, hil])
   | true =>
    by_cases c2 : w0 = vE0
    ·by_cases c3 : size.length = 2
     ·obtain ⟨A0, n0, rfl⟩ : ∃ A n, size = [A, n] := by
       match size, c3 with
       | [A, n], _ => exact ⟨A, n, rfl⟩
      have hsub : IntKind.i64.wrap ((Lr.length : Int) + 1 - 1) = Lr.length := by
       have h1 : (Lr.length : Int) + 1 - 1 = Lr.length := by omega
       rw [h1, vaC9 _ (by omega) (by simp only [List.length_cons] at hLl; omega)]
      by_cases c4 : n0 = (Lr.length : Int)
      ·have hgood := hyes (A := A0) (n := n0) hi c2 c4
       rw [hgood]
       clear hgood hno hyes hb
       have hRn : qq0 Lr = none → parO (if true = true then (match qq0 Lr with|none => none|some rows => some (A0, rows)) else none) = .tup [.agg [.int .i64 0, .sl 0 [] (some 0), .sl 0 [] (some 0)], .int .i64 4] := fun h => by rw [h]; rfl
       have hRs : ∀ rows, qq0 Lr = some rows → parO (if true = true then (match qq0 Lr with|none => none|some rows => some (A0, rows)) else none) = parO (some (A0, rows)) := fun rows h => by rw [h]; rfl
       generalize parO (if true = true then (match qq0 Lr with|none => none|some rows => some (A0, rows)) else none) = R at *
       have c4' : (Lr.length : Int) = n0 := c4.symm
       have hi2 : ints [A0, n0] = [[.int .i64 A0], [.int .i64 n0]] := rfl
       have hnx := fun k rows hk h => wce9 (l := Lr) (k := k) (xs := rows) hk h
       have hLn : Lr.length ≤ 65536 := by simp only [List.length_cons] at hLl; omega
       have hLe := vbn9 Lr
       subst c2
       unfold vE0 at *
       refine vd0 1 130 [.cell 2 47, .tmp 3] Tryz.func50 rfl rfl rfl (by simp) ?_
       intro s ⟨a0, hz⟩
       clear hz
       repeat' (first|(first|refine nav ?_|(refine g0_ ?_; first|refine wa0 (dr := allQ) (p := [1, 1, 1, 1, 0, 0, 1, 1, 0, 0, 1, 0, 1, 1, 1, 1, 1, 1, 1, 1]) [(104, 10), (105, 104), (107, 106), (108, 107), (112, 10), (110, 109)] [(103, some 100), (111, some 105), (100, some 103), (105, some 111)] [] rfl rfl mixed (by kernel_rfl) ?_|refine goD ?_))|(with_reducible refine gG ?_ ?_)|((with_reducible refine And.intro (fun h => ?_) (fun h => ?_)) <;> try (exfalso; omega))|(with_reducible refine andG ?_)|(first|(refine ⟨_, _, qa0 (hcut) (by (simp [idsL, idsE, AV.ids, hidW, hidL, hids])) _, ?_⟩)|(refine ⟨_, qa0 (hcut) (by (simp [idsL, idsE, AV.ids, hidW, hidL, hids])) _, ?_⟩)|(refine ⟨_, fun _ => qa0 (hcut) (by (simp [idsL, idsE, AV.ids, hidW, hidL, hids])) _, ?_⟩)|(refine ⟨_, _, hsp1 _, ?_⟩)|(refine ⟨_, hsp1 _, ?_⟩)|(refine ⟨_, fun _ => hsp1 _, ?_⟩)|(refine ⟨_, _, hsp2 _, ?_⟩)|(refine ⟨_, hsp2 _, ?_⟩)|(refine ⟨_, fun _ => hsp2 _, ?_⟩)|(refine ⟨_, _, qa0 (hnum) (by (simp [idsL, idsE, AV.ids, hidW, hidL, hids])) _, ?_⟩)|(refine ⟨_, qa0 (hnum) (by (simp [idsL, idsE, AV.ids, hidW, hidL, hids])) _, ?_⟩)|(refine ⟨_, fun _ => qa0 (hnum) (by (simp [idsL, idsE, AV.ids, hidW, hidL, hids])) _, ?_⟩))|simp (disch := (first|exact za0|fail)) only [push_cast, simprocAttr, a0, hlen', hS1, hS2, hi2, c4', hsub])
       refine xE0 (by first|exact xb0|fail) (vi0 (b := 1) (i := 0) (j := 1) (sz := 1) (ty := 27) rfl rfl rfl) ?_
       refine xE0 (by trivial) (vi0 (b := 1) (i := 0) (j := 2) (sz := 1) (ty := 4) rfl rfl rfl) ?_
       repeat' (first|(first|refine nav ?_|(refine g0_ ?_; first|refine wa0 (dr := allQ) (p := [1, 1, 1, 1, 0, 0, 1, 1, 0, 0, 1, 0, 1, 1, 1, 1, 1, 1, 1, 1]) [(104, 10), (105, 104), (107, 106), (108, 107), (112, 10), (110, 109)] [(103, some 100), (111, some 105), (100, some 103), (105, some 111)] [] rfl rfl mixed (by kernel_rfl) ?_|refine goD ?_))|(with_reducible refine gG ?_ ?_)|((with_reducible refine And.intro (fun h => ?_) (fun h => ?_)) <;> try (exfalso; omega))|(with_reducible refine andG ?_)|fail|simp (disch := (first|exact za0|fail)) only [push_cast, simprocAttr, a0, hlen', hS1, hS2, hi2, c4', hsub])
       refine go_loop rfl (fun mz s' H' => ∃ (k : Nat) (rows : List (List Int × Bool)), k ≤ Lr.length ∧ mz = Lr.length - k ∧ qq0 (Lr.take k) = some rows ∧ H' = [.row 3 47 [[.int .i64 0, .sl 0 [] (some 0), .sl 0 [] (some 0)]], .row 3 47 [[.int .i64 A0, .own 2 k k none, .own 3 k k none]], .row 1 27 (rowL (lcP rows)), .row 1 4 (kd0 (acP rows))] ∧ s' 2 = .ptr 0 0 0 1 ∧ s' 10 = .ptr 1 0 0 1 ∧ s' 70 = .sl 1 (strs Lr) (some (Lr.length + 1 - 1)) ∧ s' 71 = .int .i64 Lr.length ∧ s' 72 = .int .i64 k) (m := Lr.length) (by first|exact xb0|fail) (Weak.refl _ _) ⟨0, [], by omega, by omega, rfl, rfl, ?_⟩ ?_
       ·simp (disch := (first|exact za0|fail)) only [push_cast, simprocAttr, a0, hlen', hS1, hS2, hi2, c4', hsub]
       ·rintro mz s' H' ⟨k, rows, hk, rfl, hrw, rfl, b2, b10, b70, b71, b72⟩
        have hrl := kbo9 hrw
        rw [List.length_take, Nat.min_eq_left hk] at hrl
        have hl1 : (rowL (lcP rows)).length = k := by rw [zc0, xaF9, hrl]
        have hl2 : (kd0 (acP rows)).length = k := by rw [xg0, waF9, hrl]
        have hidl1 : ∀ p, idsE p (rowL (lcP rows)) = true := fun p => vf0 _ _
        have hidl2 : ∀ p, idsE p (kd0 (acP rows)) = true := fun p => zi0 _ _
        rcases Nat.lt_or_ge k Lr.length with hlt|hge
        ·have e1 := hLe k hlt
         have hnx := hnx k rows hlt hrw
         have hfp := hLp _ (List.mem_cons_of_mem _ (qd0 (d := []) hlt))
         generalize Lr.getD k [] = line at *
         have hQl := wH0 32 line
         have hQp := xK0 32 line
         have hsp3 := fun H => wbA9 H line [32] (by omega) (by simp)
         rw [var9] at hsp3
         have hlp : wW0 line = match zo0 (splitC 32 line).tail with|none => none|some row => if (splitC 32 line).headD [] = [43] then some (row, true) else if (splitC 32 line).headD [] = [45] then some (row, false) else none := rfl
         generalize hQ : splitC 32 line = Qs at *
         obtain ⟨w, ws, rfl⟩ := List.exists_cons_of_ne_nil (show Qs ≠ [] from hQ ▸ xs0 32 line)
         simp only [List.headD_cons, List.tail_cons] at hlp
         have hnum3 := zbo9 1 ws (some ws.length) (.inr rfl) (by simp only [List.length_cons] at hQl; omega) (fun p hp => by have := hQp p (List.mem_cons_of_mem _ hp); omega)
         rw [zbp9] at hsp3
         have hS3 := kJ0 ws
         have hidw : ∀ p, idsE p (strs ws) = true := fun p => wad9 _ _
         unfold qbo9 at hnum3
         cases hi3 : zo0 ws with
         | none =>
          rw [hi3] at hnum3 hlp
          obtain rfl := hRn (hnx.2 hlp)
          repeat' (first|(first|refine nav ?_|(refine g0_ ?_; first|refine wa0 (dr := allQ) (p := [1, 1, 1, 1, 0, 0, 1, 1, 0, 0, 1, 0, 1, 1, 1, 1, 1, 1, 1, 1]) [(104, 10), (105, 104), (107, 106), (108, 107), (112, 10), (110, 109)] [(103, some 100), (111, some 105), (100, some 103), (105, some 111)] [] rfl rfl mixed (by kernel_rfl) ?_|refine goD ?_))|(with_reducible refine gG ?_ ?_)|((with_reducible refine And.intro (fun h => ?_) (fun h => ?_)) <;> try (exfalso; omega))|(with_reducible refine andG ?_)|(first|(refine ⟨_, _, hsp3 _, ?_⟩)|(refine ⟨_, hsp3 _, ?_⟩)|(refine ⟨_, fun _ => hsp3 _, ?_⟩)|(refine ⟨_, _, qa0 (hnum3) (by (simp [idsL, idsE, AV.ids, hidw, hidl1, hidl2])) _, ?_⟩)|(refine ⟨_, qa0 (hnum3) (by (simp [idsL, idsE, AV.ids, hidw, hidl1, hidl2])) _, ?_⟩)|(refine ⟨_, fun _ => qa0 (hnum3) (by (simp [idsL, idsE, AV.ids, hidw, hidl1, hidl2])) _, ?_⟩))|simp (disch := (first|exact za0|fail)) only [push_cast, simprocAttr, b2, b10, b70, b71, b72, e1, hS1, hS3, hl1, hl2])
         | some row =>
          rw [hi3] at hnum3 hlp
          simp only at hlp
          have hidr : ∀ p, idsE p (ints row) = true := fun p => va0 _ _
          have et1 : (rowL (lcP rows)).take k = rowL (lcP rows) := List.take_of_length_le (by omega)
          have et2 : (kd0 (acP rows)).take k = kd0 (acP rows) := List.take_of_length_le (by omega)
          have ed1 : (rowL (lcP rows)).drop (k + 1) = [] := List.drop_eq_nil_of_le (by omega)
          have ed2 : (kd0 (acP rows)).drop (k + 1) = [] := List.drop_eq_nil_of_le (by omega)
          by_cases d1 : w = [43]
          ·replace hlp := hlp.trans (by first|exact if_pos d1|(split; rfl; contradiction))
           have hn1 := hnx.1 _ hlp
           have hs1 := vbO9 rows (row, true)
           have hs2 := kbO9 rows (row, true)
           repeat' (first|(first|refine nav ?_|(refine g0_ ?_; first|refine wa0 (dr := allQ) (p := [1, 1, 1, 1, 0, 0, 1, 1, 0, 0, 1, 0, 1, 1, 1, 1, 1, 1, 1, 1]) [(104, 10), (105, 104), (107, 106), (108, 107), (112, 10), (110, 109)] [(103, some 100), (111, some 105), (100, some 103), (105, some 111)] [] rfl rfl mixed (by kernel_rfl) ?_|refine goD ?_))|(with_reducible refine gG ?_ ?_)|((with_reducible refine And.intro (fun h => ?_) (fun h => ?_)) <;> try (exfalso; omega))|(with_reducible refine andG ?_)|(first|(refine ⟨_, _, hsp3 _, ?_⟩)|(refine ⟨_, hsp3 _, ?_⟩)|(refine ⟨_, fun _ => hsp3 _, ?_⟩)|(refine ⟨_, _, qa0 (hnum3) (by (simp [idsL, idsE, AV.ids, hidw, hidl1, hidl2, hidr])) _, ?_⟩)|(refine ⟨_, qa0 (hnum3) (by (simp [idsL, idsE, AV.ids, hidw, hidl1, hidl2, hidr])) _, ?_⟩)|(refine ⟨_, fun _ => qa0 (hnum3) (by (simp [idsL, idsE, AV.ids, hidw, hidl1, hidl2, hidr])) _, ?_⟩))|simp (disch := (first|exact za0|fail)) only [push_cast, simprocAttr, b2, b10, b70, b71, b72, e1, hS1, hS3, hl1, hl2, d1, et1, et2, ed1, ed2])
           refine xa0 (Lr.length - (k + 1)) (by omega) (by first|exact xb0|fail) ⟨k + 1, _, by omega, rfl, hn1, by rw [← hs1, ← hs2], ?_⟩
           simp (disch := (first|exact za0|fail)) only [push_cast, simprocAttr, b2, b10, b70, b71, b72, e1, hS1, hS3, hl1, hl2, d1, et1, et2, ed1, ed2]
          ·replace hlp := hlp.trans (by first|exact if_neg d1|(split; contradiction; rfl))
           by_cases d2 : w = [45]
           ·replace hlp := hlp.trans (by first|exact if_pos d2|(split; rfl; contradiction))
            have hn1 := hnx.1 _ hlp
            have hs1 := vbO9 rows (row, false)
            have hs2 := kbO9 rows (row, false)
            have hne : ¬ ([45] : List UInt8) = [43] := by decide
            repeat' (first|(first|refine nav ?_|(refine g0_ ?_; first|refine wa0 (dr := allQ) (p := [1, 1, 1, 1, 0, 0, 1, 1, 0, 0, 1, 0, 1, 1, 1, 1, 1, 1, 1, 1]) [(104, 10), (105, 104), (107, 106), (108, 107), (112, 10), (110, 109)] [(103, some 100), (111, some 105), (100, some 103), (105, some 111)] [] rfl rfl mixed (by kernel_rfl) ?_|refine goD ?_))|(with_reducible refine gG ?_ ?_)|((with_reducible refine And.intro (fun h => ?_) (fun h => ?_)) <;> try (exfalso; omega))|(with_reducible refine andG ?_)|(first|(refine ⟨_, _, hsp3 _, ?_⟩)|(refine ⟨_, hsp3 _, ?_⟩)|(refine ⟨_, fun _ => hsp3 _, ?_⟩)|(refine ⟨_, _, qa0 (hnum3) (by (simp [idsL, idsE, AV.ids, hidw, hidl1, hidl2, hidr])) _, ?_⟩)|(refine ⟨_, qa0 (hnum3) (by (simp [idsL, idsE, AV.ids, hidw, hidl1, hidl2, hidr])) _, ?_⟩)|(refine ⟨_, fun _ => qa0 (hnum3) (by (simp [idsL, idsE, AV.ids, hidw, hidl1, hidl2, hidr])) _, ?_⟩))|simp (disch := (first|exact za0|fail)) only [push_cast, simprocAttr, b2, b10, b70, b71, b72, e1, hS1, hS3, hl1, hl2, d2, hne, et1, et2, ed1, ed2])
            refine xa0 (Lr.length - (k + 1)) (by omega) (by first|exact xb0|fail) ⟨k + 1, _, by omega, rfl, hn1, by rw [← hs1, ← hs2], ?_⟩
            simp (disch := (first|exact za0|fail)) only [push_cast, simprocAttr, b2, b10, b70, b71, b72, e1, hS1, hS3, hl1, hl2, d2, hne, et1, et2, ed1, ed2]
           ·replace hlp := hlp.trans (by first|exact if_neg d2|(split; contradiction; rfl))
            obtain rfl := hRn (hnx.2 hlp)
            repeat' (first|(first|refine nav ?_|(refine g0_ ?_; first|refine wa0 (dr := allQ) (p := [1, 1, 1, 1, 0, 0, 1, 1, 0, 0, 1, 0, 1, 1, 1, 1, 1, 1, 1, 1]) [(104, 10), (105, 104), (107, 106), (108, 107), (112, 10), (110, 109)] [(103, some 100), (111, some 105), (100, some 103), (105, some 111)] [] rfl rfl mixed (by kernel_rfl) ?_|refine goD ?_))|(with_reducible refine gG ?_ ?_)|((with_reducible refine And.intro (fun h => ?_) (fun h => ?_)) <;> try (exfalso; omega))|(with_reducible refine andG ?_)|(first|(refine ⟨_, _, hsp3 _, ?_⟩)|(refine ⟨_, hsp3 _, ?_⟩)|(refine ⟨_, fun _ => hsp3 _, ?_⟩)|(refine ⟨_, _, qa0 (hnum3) (by (simp [idsL, idsE, AV.ids, hidw, hidl1, hidl2, hidr])) _, ?_⟩)|(refine ⟨_, qa0 (hnum3) (by (simp [idsL, idsE, AV.ids, hidw, hidl1, hidl2, hidr])) _, ?_⟩)|(refine ⟨_, fun _ => qa0 (hnum3) (by (simp [idsL, idsE, AV.ids, hidw, hidl1, hidl2, hidr])) _, ?_⟩))|simp (disch := (first|exact za0|fail)) only [push_cast, simprocAttr, b2, b10, b70, b71, b72, e1, hS1, hS3, hl1, hl2, d1, d2])
        ·obtain rfl : Lr.length = k := by omega
         rw [List.take_length] at hrw
         obtain rfl := hRs rows hrw
         have hrl := kbo9 hrw
         have hl1 : (rowL (lcP rows)).length = Lr.length := by rw [zc0, xaF9, hrl]
         have hl2 : (kd0 (acP rows)).length = Lr.length := by rw [xg0, waF9, hrl]
         have hidl1 : ∀ p, idsE p (rowL (lcP rows)) = true := fun p => vf0 _ _
         have hidl2 : ∀ p, idsE p (kd0 (acP rows)) = true := fun p => zi0 _ _
         have et1 : (rowL (lcP rows)).take Lr.length = rowL (lcP rows) := List.take_of_length_le (by omega)
         have et2 : (kd0 (acP rows)).take Lr.length = kd0 (acP rows) := List.take_of_length_le (by omega)
         have hck := kcH9 (H := [.row 3 47 [[.int .i64 0, .sl 0 [] (some 0), .sl 0 [] (some 0)]], .row 3 47 [[.int .i64 A0, .own 2 Lr.length Lr.length none, .own 3 Lr.length Lr.length none]], .row 1 27 (rowL (lcP rows)), .row 1 4 (kd0 (acP rows))]) rfl rfl A0 hrl hLn (zbP9 hrw fun f hf => by have := hLp f (List.mem_cons_of_mem _ hf); omega)
         have hc1 := kaO9 2 Lr.length Lr.length 27 (rowL (lcP rows)) none [.row 3 47 [[.int .i64 0, .sl 0 [] (some 0), .sl 0 [] (some 0)]], .row 3 47 [[.int .i64 A0, .own 2 Lr.length Lr.length none, .own 3 Lr.length Lr.length none]], .row 1 27 (rowL (lcP rows)), .row 1 4 (kd0 (acP rows))] rfl hl1.symm (Nat.le_refl _)
         have hc2 := qaP9 3 Lr.length Lr.length 4 (kd0 (acP rows)) none [.row 3 47 [[.int .i64 0, .sl 0 [] (some 0), .sl 0 [] (some 0)]], .row 3 47 [[.int .i64 A0, .own 2 Lr.length Lr.length none, .own 3 Lr.length Lr.length none]], .row 1 27 (rowL (lcP rows)), .row 1 4 (kd0 (acP rows))] rfl hl2.symm (Nat.le_refl _)
         by_cases hc0 : vl0 A0 (vm0 (lcP rows)) rows.length = 0
         ·rw [hc0] at hck
          have hR : parO (some (A0, rows)) = .tup [dA A0 1 (lcP rows) (some rows.length) 1 (acP rows) (some rows.length), .int .i64 0] := by rw [parO, if_neg (by rw [hc0]; simp)]
          rw [hR, hrl]
          unfold dA
          repeat' (first|(first|refine nav ?_|(refine g0_ ?_; first|refine wa0 (dr := allQ) (p := [1, 1, 1, 1, 0, 0, 1, 1, 0, 0, 1, 0, 1, 1, 1, 1, 1, 1, 1, 1]) [(104, 10), (105, 104), (107, 106), (108, 107), (112, 10), (110, 109)] [(103, some 100), (111, some 105), (100, some 103), (105, some 111)] [] rfl rfl mixed (by kernel_rfl) ?_|refine goD ?_))|(with_reducible refine gG ?_ ?_)|((with_reducible refine And.intro (fun h => ?_) (fun h => ?_)) <;> try (exfalso; omega))|(with_reducible refine andG ?_)|(first|(refine ⟨_, _, hck, ?_⟩)|(refine ⟨_, hck, ?_⟩)|(refine ⟨_, fun _ => hck, ?_⟩)|(refine ⟨_, _, hc1, ?_⟩)|(refine ⟨_, hc1, ?_⟩)|(refine ⟨_, fun _ => hc1, ?_⟩)|(refine ⟨_, _, hc2, ?_⟩)|(refine ⟨_, hc2, ?_⟩)|(refine ⟨_, fun _ => hc2, ?_⟩))|simp (disch := (first|exact za0|fail)) only [push_cast, simprocAttr, b2, b10, b70, b71, b72, hl1, hl2, et1, et2])
         ·have hR : parO (some (A0, rows)) = .tup [dA0, .int .i64 (vl0 A0 (vm0 (lcP rows)) rows.length)] := by rw [parO, if_pos hc0]
          rw [hR]
          unfold dA0
          generalize vl0 A0 (vm0 (lcP rows)) rows.length = e at *
          repeat' (first|(first|refine nav ?_|(refine g0_ ?_; first|refine wa0 (dr := allQ) (p := [1, 1, 1, 1, 0, 0, 1, 1, 0, 0, 1, 0, 1, 1, 1, 1, 1, 1, 1, 1]) [(104, 10), (105, 104), (107, 106), (108, 107), (112, 10), (110, 109)] [(103, some 100), (111, some 105), (100, some 103), (105, some 111)] [] rfl rfl mixed (by kernel_rfl) ?_|refine goD ?_))|(with_reducible refine gG ?_ ?_)|((with_reducible refine And.intro (fun h => ?_) (fun h => ?_)) <;> try (exfalso; omega))|(with_reducible refine andG ?_)|(first|(refine ⟨_, _, hck, ?_⟩)|(refine ⟨_, hck, ?_⟩)|(refine ⟨_, fun _ => hck, ?_⟩))|simp (disch := (first|exact za0|fail)) only [push_cast, simprocAttr, b2, b10, b70, b71, b72, hl1, hl2, et1, et2, hc0])
      ·rw [hb (hno (by rw [hi]; rintro ⟨A, n, h, _, h3⟩; simp at h; omega))]
       have c4' : ¬ (Lr.length : Int) = n0 := fun q => c4 q.symm
       have hi2 : ints [A0, n0] = [[.int .i64 A0], [.int .i64 n0]] := rfl
       subst c2
       unfold vE0 at *
       refine vd0 1 130 [.cell 2 47, .tmp 3] Tryz.func50 rfl rfl rfl (by simp) ?_
       intro s ⟨a0, hz⟩
       clear hz
       repeat' (first|(first|refine nav ?_|(refine g0_ ?_; first|refine wa0 (dr := allQ) (p := [1, 1, 1, 1, 0, 0, 1, 1, 0, 0, 1, 0, 1, 1, 1, 1, 1, 1, 1, 1]) [(104, 10), (105, 104), (107, 106), (108, 107), (112, 10), (110, 109)] [(103, some 100), (111, some 105), (100, some 103), (105, some 111)] [] rfl rfl mixed (by kernel_rfl) ?_|refine goD ?_))|(with_reducible refine gG ?_ ?_)|((with_reducible refine And.intro (fun h => ?_) (fun h => ?_)) <;> try (exfalso; omega))|(with_reducible refine andG ?_)|(first|(refine ⟨_, _, qa0 (hcut) (by (simp [idsL, idsE, AV.ids, hidW, hidL, hids])) _, ?_⟩)|(refine ⟨_, qa0 (hcut) (by (simp [idsL, idsE, AV.ids, hidW, hidL, hids])) _, ?_⟩)|(refine ⟨_, fun _ => qa0 (hcut) (by (simp [idsL, idsE, AV.ids, hidW, hidL, hids])) _, ?_⟩)|(refine ⟨_, _, hsp1 _, ?_⟩)|(refine ⟨_, hsp1 _, ?_⟩)|(refine ⟨_, fun _ => hsp1 _, ?_⟩)|(refine ⟨_, _, hsp2 _, ?_⟩)|(refine ⟨_, hsp2 _, ?_⟩)|(refine ⟨_, fun _ => hsp2 _, ?_⟩)|(refine ⟨_, _, qa0 (hnum) (by (simp [idsL, idsE, AV.ids, hidW, hidL, hids])) _, ?_⟩)|(refine ⟨_, qa0 (hnum) (by (simp [idsL, idsE, AV.ids, hidW, hidL, hids])) _, ?_⟩)|(refine ⟨_, fun _ => qa0 (hnum) (by (simp [idsL, idsE, AV.ids, hidW, hidL, hids])) _, ?_⟩))|simp (disch := (first|exact za0|fail)) only [push_cast, simprocAttr, a0, hlen', hS1, hS2, hi2, c4', hsub])
     ·rw [hb (hno (by rw [hi]; rintro ⟨A, n, h, _⟩; injection h with h; rw [h] at c3; exact c3 rfl))]
      have c3' : ¬ (size.length : Int) = 2 := by omega
      subst c2
      unfold vE0 at *
      refine vd0 1 130 [.cell 2 47, .tmp 3] Tryz.func50 rfl rfl rfl (by simp) ?_
      intro s ⟨a0, hz⟩
      clear hz
      repeat' (first|(first|refine nav ?_|(refine g0_ ?_; first|refine wa0 (dr := allQ) (p := [1, 1, 1, 1, 0, 0, 1, 1, 0, 0, 1, 0, 1, 1, 1, 1, 1, 1, 1, 1]) [(104, 10), (105, 104), (107, 106), (108, 107), (112, 10), (110, 109)] [(103, some 100), (111, some 105), (100, some 103), (105, some 111)] [] rfl rfl mixed (by kernel_rfl) ?_|refine goD ?_))|(with_reducible refine gG ?_ ?_)|((with_reducible refine And.intro (fun h => ?_) (fun h => ?_)) <;> try (exfalso; omega))|(with_reducible refine andG ?_)|(first|(refine ⟨_, _, qa0 (hcut) (by (simp [idsL, idsE, AV.ids, hidW, hidL, hids])) _, ?_⟩)|(refine ⟨_, qa0 (hcut) (by (simp [idsL, idsE, AV.ids, hidW, hidL, hids])) _, ?_⟩)|(refine ⟨_, fun _ => qa0 (hcut) (by (simp [idsL, idsE, AV.ids, hidW, hidL, hids])) _, ?_⟩)|(refine ⟨_, _, hsp1 _, ?_⟩)|(refine ⟨_, hsp1 _, ?_⟩)|(refine ⟨_, fun _ => hsp1 _, ?_⟩)|(refine ⟨_, _, hsp2 _, ?_⟩)|(refine ⟨_, hsp2 _, ?_⟩)|(refine ⟨_, fun _ => hsp2 _, ?_⟩)|(refine ⟨_, _, qa0 (hnum) (by (simp [idsL, idsE, AV.ids, hidW, hidL, hids])) _, ?_⟩)|(refine ⟨_, qa0 (hnum) (by (simp [idsL, idsE, AV.ids, hidW, hidL, hids])) _, ?_⟩)|(refine ⟨_, fun _ => qa0 (hnum) (by (simp [idsL, idsE, AV.ids, hidW, hidL, hids])) _, ?_⟩))|simp (disch := (first|exact za0|fail)) only [push_cast, simprocAttr, a0, hlen', hS1, hS2, hil, c3'])
    ·rw [hb (hno (by rintro ⟨A, n, _, h, _⟩; exact c2 h))]
     unfold vE0 at c2
     refine vd0 1 130 [.cell 2 47, .tmp 3] Tryz.func50 rfl rfl rfl (by simp) ?_
     intro s ⟨a0, hz⟩
     clear hz
     repeat' (first|(first|refine nav ?_|(refine g0_ ?_; first|refine wa0 (dr := allQ) (p := [1, 1, 1, 1, 0, 0, 1, 1, 0, 0, 1, 0, 1, 1, 1, 1, 1, 1, 1, 1]) [(104, 10), (105, 104), (107, 106), (108, 107), (112, 10), (110, 109)] [(103, some 100), (111, some 105), (100, some 103), (105, some 111)] [] rfl rfl mixed (by kernel_rfl) ?_|refine goD ?_))|(with_reducible refine gG ?_ ?_)|((with_reducible refine And.intro (fun h => ?_) (fun h => ?_)) <;> try (exfalso; omega))|(with_reducible refine andG ?_)|(first|(refine ⟨_, _, qa0 (hcut) (by (simp [idsL, idsE, AV.ids, hidW, hidL, hids])) _, ?_⟩)|(refine ⟨_, qa0 (hcut) (by (simp [idsL, idsE, AV.ids, hidW, hidL, hids])) _, ?_⟩)|(refine ⟨_, fun _ => qa0 (hcut) (by (simp [idsL, idsE, AV.ids, hidW, hidL, hids])) _, ?_⟩)|(refine ⟨_, _, hsp1 _, ?_⟩)|(refine ⟨_, hsp1 _, ?_⟩)|(refine ⟨_, fun _ => hsp1 _, ?_⟩)|(refine ⟨_, _, hsp2 _, ?_⟩)|(refine ⟨_, hsp2 _, ?_⟩)|(refine ⟨_, fun _ => hsp2 _, ?_⟩)|(refine ⟨_, _, qa0 (hnum) (by (simp [idsL, idsE, AV.ids, hidW, hidL, hids])) _, ?_⟩)|(refine ⟨_, qa0 (hnum) (by (simp [idsL, idsE, AV.ids, hidW, hidL, hids])) _, ?_⟩)|(refine ⟨_, fun _ => qa0 (hnum) (by (simp [idsL, idsE, AV.ids, hidW, hidL, hids])) _, ?_⟩))|simp (disch := (first|exact za0|fail)) only [push_cast, simprocAttr, a0, hlen', hS1, hS2, hil, c2])
end Go.Proofs
