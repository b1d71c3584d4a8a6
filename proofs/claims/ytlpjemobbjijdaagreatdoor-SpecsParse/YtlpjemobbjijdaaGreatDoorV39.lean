import Derived.Test.YtlpjemobbjijdaaGreatDoorV33
set_option linter.unusedVariables false
set_option linter.unusedSimpArgs false
set_option autoImplicit false
namespace Go.V
open Go Go.RowKit
section
variable {P : Program} {G : Glob} {q : Operand → Bool}
structure PInv (P : Program) (G : Glob) (dl : List (Nat × Nat)) (ops : List Oper) (n0 : Nat) (S0 : St) (H0 : List Blk) (ds : List Deferred) (ps : List Pend) (listed lr : Array Bool) (a : List AV) (H : List Blk) (S : St) (act : Act) : Prop where
 ok : S.Ok H
 g : Globs G S.M
 n : n0 ≤ H.length
 ext : Ext n0 S0 H0 S H
 rel : RelL (S.env H) (scr ps a) act.tmps.toList
 marks : Marks S0 ds S H act.defers
 l : LRel ops.length ps listed lr
 cl : xD0 .any ops lr
 pd : ∀ p ∈ ps, wbQ9 P dl ops S0 S H act listed p
 pw : ps.Pairwise fun x y => x.ja ≠ y.ja ∧ x.at_ ≠ y.at_
theorem vu0 {dl : List (Nat × Nat)} {ops : List Oper} (h : delayOkA P dl ops = true) {ja js : Nat} (hm : (ja, js) ∈ dl) : dl.lookup ja = some js ∧ dl.lookup js = none ∧ ∃ oa os t d T, ops[ja]? = some oa ∧ ops[js]? = some os ∧ kap9 oa = some (t, d) ∧ zb0 P t = some T ∧ T.zero.length = T.sz ∧ ja ∈ aft os ∧ ∀ k ∈ aft oa ++ aft os, k = ja ∨ ∀ js', dl.lookup k = some js' → js' ∈ aft os := by
 have := List.all_eq_true.1 h _ hm
 simp only [Bool.and_eq_true, beq_iff_eq, Option.isNone_iff_eq_none] at this
 obtain ⟨⟨h1, h2⟩, h3⟩ := this
 refine ⟨h1, h2, ?_⟩
 cases ha : ops[ja]? with
 | none => simp [ha] at h3
 | some oa =>
  cases hs : ops[js]? with
  | none => simp [ha, hs] at h3
  | some os =>
   grind
theorem xI0 {dl : List (Nat × Nat)} {ops : List Oper} (h : delayOkB dl ops = true) {i : Nat} {o : Oper} (ho : (delays dl ops)[i]? = some o) : ∀ k ∈ aft o, k < i := by
 have hlt : i < ops.length := by grind [zC0, List.getElem?_eq_some_iff]
 have := List.all_eq_true.1 h i (List.mem_range.2 hlt)
 grind
theorem qaK9 {dl : List (Nat × Nat)} {ops : List Oper} (h : delayOkC dl ops = true) {i : Nat} {o : Oper} (ho : ops[i]? = some o) {ja js : Nat} (hm : (ja, js) ∈ dl) {oa : Oper} {d : Tmp} (ha : ops[ja]? = some oa) (hd : oa.dst = some d) (hne : ja ≠ i) :
  ((dl.lookup i).isSome = true → o.dst ≠ some d) ∧ ((dl.lookup i).isSome = false → (ja ∈ aft o ∧ (js = i ∨ js ∈ aft o)) ∨ (ja ∉ aft o ∧ d ∉ o.looksAt ops.toArray ∧ o.dst ≠ some d)) := by
 have hlt := (List.getElem?_eq_some_iff.1 ho).1
 have := List.all_eq_true.1 h i (List.mem_range.2 hlt)
 rw [ho] at this
 have := List.all_eq_true.1 this _ hm
 have hne' : (ja == i) = false := by simp [hne]
 simp only [kdh9, ha, hd, hne', Bool.false_or] at this
 grind
theorem vT0 {dl : List (Nat × Nat)} {ops : List Oper} {i : Nat} {o : Oper} {k : Nat} (h : k ∈ aft o) : k ∈ aft (xo0 dl ops i o) := by
 obtain ⟨e, he, hb, rfl⟩ := xbQ9 h
 grind [wz0, xo0]
theorem kbz9 {dl : List (Nat × Nat)} {i js : Nat} (h : dl.lookup i = some js) : (i, js) ∈ dl := by
 induction dl with
 | nil => cases h
 | cons p dl ih =>
  grind
section
variable {dl : List (Nat × Nat)} {ops : List Oper} {n0 : Nat} {S0 : St} {H0 : List Blk} {ds : List Deferred} {ps : List Pend} {listed lr : Array Bool} {a : List AV} {H : List Blk} {S : St} {act : Act} {K : List AV → List Blk → Prop}
theorem ku0 {l : Array Bool} {i j n : Nat} (hs : l.size = n) (hj : j < n) : (l.setIfInBounds i true).getD j true = (l.getD j true || i == j) := by
 have h1 : j < l.size := by omega
 by_cases e : i = j
 ·subst e; simp [h1]
 ·simp [h1, e]
theorem zaU9 (hl : LRel ops.length ps listed lr) {p : Pend} (hp : p ∈ ps) (hj : p.ja < ops.length) : lr.getD p.ja true = true := by
 rw [hl.2.2 p.ja hj]
 grind
theorem xaU9 (hckA : delayOkA P dl ops = true) {l1 l2 : List Pend} {p : Pend} (hps : ps = l1 ++ p :: l2) (hI : PInv P G dl ops n0 S0 H0 ds ps listed lr a H S act) {f : Nat} (hr : p.ja ∈ Region.ready .any (delays dl ops).toArray listed)
  (hA : AAny P G q (delays dl ops) .any K (f + 1) listed a H) :
  ∃ a' H' S', AAny P G q (delays dl ops) .any K f (listed.setIfInBounds p.ja true) a' H' ∧ S'.w = S.w ∧ PInv P G dl ops n0 S0 H0 ds (l1 ++ l2) (listed.setIfInBounds p.ja true) lr a' H' S' act := by
 have hp : p ∈ ps := by rw [hps]; simp
 obtain ⟨hm, ⟨oa, hoa, hal⟩, hu1, hu2, hsz0, hlt, hfree, htmp, T, cs, hT, hTl, hTz, h1c, hcell⟩ := hI.pd p hp
 obtain ⟨hop, hdst, hgd⟩ := xt0 hal
 obtain ⟨o', ho', r, H', hs, hA'⟩ := hA.2 _ hr
 rw [vi0, hoa] at ho'
 simp only [Option.map_some, Option.some.injEq] at ho'
 subst ho'
 obtain ⟨e1, e2, e3⟩ := qab9 dl ops p.ja oa
 have hs1 := (wy0 dl e1 e3).1 hs.1
 rw [e2, hdst] at hA'
 unfold wi0 at hs1
 rw [hgd] at hs1
 simp only [hop] at hs1
 have key : r = .ptr H.length 0 0 1 ∧ H' = H ++ [.row T.sz p.t [T.zero]] := by
  cases hs1 with
  | pure h => simp [zc0, bad] at h
  | eff he h => simp [kc0, xL0, hT]
  | made he r h => cases he
  | mkat he b r H' h => cases he
  | call c f g cap ho => cases ho
  | yield c f b ho => cases ho
 obtain ⟨rfl, rfl⟩ := key
 have hja : p.ja < ops.length := (List.getElem?_eq_some_iff.1 hoa).1
 have hrow : RowIn (S.env H) T.sz [T.zero] cs := by
  grind [xan9, kh0]
 have hcs : cs.size = 1 * T.sz := by rw [← hTl, hTz]; simp
 have hle := vbQ9 (S := S) (H := H) (L := p.at_) (s := T.sz) (t := p.t) (es := [T.zero])
 refine ⟨_, _, S.take H.length p.at_, hA', rfl, kco9 hI.ok hfree hcell (by simp) hcs hrow, hI.g, by have := hI.n; simp; omega, qcp9 hI.ext hI.n hsz0, ?_, vbz9 hI.marks ⟨cs, hcell⟩, ?_, hI.cl, ?_, ?_⟩
 ·refine RelL.mk (by rw [zI0]; have := hI.rel.length; grind [zI0, putA]) fun t x v hx hv => ?_
  rw [qaq9] at hx
  cases hy : (putA a (some p.d) (.ptr H.length 0 0 1))[t]? with
  | none => rw [hy] at hx; cases hx
  | some y =>
   rw [hy] at hx
   simp only [Option.map_some, Option.some.injEq] at hx
   by_cases hany : ((l1 ++ l2).any fun x => x.d == t) = true
   ·rw [if_pos hany] at hx; subst hx; simp [Rel]
   ·rw [if_neg hany] at hx; subst hx
    by_cases hd : p.d = t
    ·subst hd
     have hlt2 : p.d < a.length := by
      grind [List.getElem?_eq_some_iff, putA]
     simp [putA, hlt2] at hy
     subst hy
     have := htmp v (by simpa using hv)
     exact vY0 (k := 1) vh0 (by exact xc0 _ _ _) (by rw [this]; simp)
    ·have hy2 : a[t]? = some y := by
      grind [putA]
     have hx2 : (scr ps a)[t]? = some y := by
      rw [qaq9, hy2, hps]
      grind
     obtain ⟨v', hv', hrel⟩ := hI.rel.get hx2
     grind [Rel.mono]
 ·obtain ⟨q1, q2, q3⟩ := hI.l
  refine ⟨by simpa using q1, q2, fun j hj => ?_⟩
  grind [ku0]
 ·intro p' hp'
  have hp2 : p' ∈ ps := by grind
  have hne : p'.ja ≠ p.ja ∧ p'.at_ ≠ p.at_ := by
   have hpw := hI.pw
   grind
  obtain ⟨g1, ⟨oa', g2, g3⟩, g4, g5, g6, g7, g8, g9, T', cs', g10⟩ := hI.pd p' hp2
  obtain ⟨f1, f2, oa2, os2, t2, d2, T2, f3, f4, _⟩ := vu0 hckA g1
  have hj1 : p'.ja < ops.length := (List.getElem?_eq_some_iff.1 g2).1
  have hj2 : p'.js < ops.length := (List.getElem?_eq_some_iff.1 f4).1
  refine ⟨g1, ⟨oa', g2, g3⟩, ?_, ?_, g6, g7, kbQ9 g8 hne.2, g9, T', cs', g10⟩
  ·rw [ku0 hI.l.1 hj1, g4]; simp; exact Ne.symm hne.1
  grind [ku0, vu0]
 ·rw [hps] at hI
  exact hI.pw.sublist (by simp)
theorem vbo9 {n : Nat} {l : Array Bool} : ∀ j, j < n → l.getD j true = false → ∃ m, m ≤ j ∧ l.getD m true = false ∧ ∀ k, k < m → l.getD k true = true := by
 intro j
 induction j using Nat.strongRecOn with
 | ind j ih =>
  grind
theorem kF0 (l : List Oper) (j : Nat) : l.toArray[j]? = l[j]? := by simp
theorem qbR9 (hckA : delayOkA P dl ops = true) (hckB : delayOkB dl ops = true) : ∀ (k : Nat) (ps : List Pend) (listed : Array Bool) (a : List AV) (H : List Blk) (S : St) (m : Nat), ps.length = k → Region.ready .any ops.toArray lr = [] → AAny P G q (delays dl ops) .any K (m + ps.length) listed a H → PInv P G dl ops n0 S0 H0 ds ps listed lr a H S act → Ends G n0 S0 H0 ds K act S.w := by
 intro k
 induction k with
 | zero =>
  intro ps listed a H S m hk hr hA hI
  have e : ps = [] := List.eq_nil_of_length_eq_zero hk
  subst e
  have hre : Region.ready .any (delays dl ops).toArray listed = [] := by
   refine List.eq_nil_iff_forall_not_mem.2 fun j hj => ?_
   obtain ⟨hu, o, ho, hd⟩ := mem_ready.1 hj
   rw [kF0] at ho
   have hjl : j < ops.length := by grind [zC0, List.getElem?_eq_some_iff]
   obtain ⟨mm, h1, h2, h3⟩ := vbo9 (n := ops.length) j hjl hu
   have hml : mm < ops.length := by omega
   have hom : ops[mm]? = some ops[mm] := by simp [hml]
   have : mm ∈ Region.ready .any ops.toArray lr := by
    refine mem_ready.2 ⟨by rw [hI.l.2.2 mm hml, h2]; rfl, ops[mm], by rw [kF0]; exact hom, fun e he hb => ?_⟩
    have hlt : e.on < mm := xI0 hckB (by rw [vi0, hom]; rfl) e.on (vT0 (wz0 he hb))
    rw [xw0 hI.l.2.1 (by omega), hI.l.2.2 _ (by omega), h3 _ hlt]; rfl
   rw [hr] at this; cases this
  have hK : K a H := by
   cases m with
   | zero => exact hA.2
   | succ m => exact hA.1 hre
  exact ⟨a, H, S, rfl, hK, hI.ok, hI.ext, hI.rel, hI.marks⟩
 | succ k ih =>
  intro ps listed a H S m hk hr hA hI
  have hne : ps ≠ [] := fun e => by rw [e] at hk; cases hk
  obtain ⟨p0, hp0⟩ := List.exists_mem_of_ne_nil _ hne
  obtain ⟨g1, ⟨oa, g2, g3⟩, g4, _⟩ := hI.pd p0 hp0
  obtain ⟨mm, h1, h2, h3⟩ := vbo9 (n := ops.length) p0.ja (List.getElem?_eq_some_iff.1 g2).1 g4
  have hml : mm < ops.length := by grind
  have hom : ops[mm]? = some ops[mm] := by simp [hml]
  by_cases hany : ∃ p ∈ ps, p.ja = mm
  ·obtain ⟨p, hp, rfl⟩ := hany
   obtain ⟨l1, l2, hps⟩ := List.append_of_mem hp
   have hlen : ps.length = (l1 ++ l2).length + 1 := by rw [hps]; simp; omega
   have hr2 : p.ja ∈ Region.ready .any (delays dl ops).toArray listed := by
    grind [mem_ready, xo0, kF0, vi0, xI0, wz0, xw0]
   rw [hlen, ← Nat.add_assoc] at hA
   grind [xaU9]
  ·exfalso
   have : mm ∈ Region.ready .any ops.toArray lr := by
    have hno : (ps.any fun p => p.ja == mm) = false := by
     grind
    refine mem_ready.2 ⟨by rw [hI.l.2.2 mm hml, h2, hno]; rfl, ops[mm], by rw [kF0]; exact hom, fun e he hb => ?_⟩
    have hlt : e.on < mm := xI0 hckB (by rw [vi0, hom]; rfl) e.on (vT0 (wz0 he hb))
    rw [xw0 hI.l.2.1 (by omega), hI.l.2.2 _ (by omega), h3 _ hlt]; rfl
   rw [hr] at this; cases this
theorem zbR9 (p : Nat → Bool) (i : Nat) : ∀ n, (List.range n).countP (fun j => p j && j != i) + (if i < n ∧ p i = true then 1 else 0) = (List.range n).countP p
 | 0 => by simp
 | n + 1 => by
  have ih := zbR9 p i n
  rw [List.range_succ, List.countP_append, List.countP_append]
  grind
theorem wcQ9 {n i : Nat} {l : Array Bool} (hs : l.size = n) (hi : i < n) (hu : l.getD i true = false) {f : Nat} (h : (List.range n).countP (fun j => !l.getD j true) = f + 1) : (List.range n).countP (fun j => !(l.setIfInBounds i true).getD j true) = f := by
 have h1 := zbR9 (fun j => !l.getD j true) i n
 rw [if_pos ⟨hi, by simp [hu]⟩, h] at h1
 have h2 : (List.range n).countP (fun j => !(l.setIfInBounds i true).getD j true) = (List.range n).countP (fun j => !l.getD j true && j != i) := by
  refine List.countP_congr fun j hj => ?_
  rw [ku0 hs (List.mem_range.1 hj)]
  grind
 omega
theorem waU9 {p : Pend} {S' : St} {H' : List Blk} {act' : Act} {listed' : Array Bool} (h : wbQ9 P dl ops S0 S H act listed p) (hsz : S.w.heap.size ≤ S'.w.heap.size) (hf : S.Free H p.at_ → S'.Free H' p.at_ ∧ S'.w.heap[p.at_]? = S.w.heap[p.at_]?)
  (hact : act'.tmps[p.d]? = act.tmps[p.d]?) (h1 : listed'.getD p.ja true = false) (h2 : listed'.getD p.js true = false) : wbQ9 P dl ops S0 S' H' act' listed' p := by
 obtain ⟨g1, g2, g3, g4, g5, g6, g7, g8, T, cs, t1, t2, t3, t4, t5⟩ := h
 obtain ⟨f1, f2⟩ := hf g7
 exact ⟨g1, g2, h1, h2, g5, by omega, f1, fun v hv => g8 v (by rw [← hact]; exact hv), T, cs, t1, t2, t3, t4, by rw [f2]; exact t5⟩
theorem vaU9 {act : Act} {d : Option Tmp} {v : Value} {t : Tmp} (h : d ≠ some t) : (act.put d v).tmps[t]? = act.tmps[t]? := by
 cases d with
 | none => rfl
 | some d =>
  grind [Act.put]
theorem vcQ9 {d : Option Tmp} {r : AV} (h : ∀ p ∈ ps, d ≠ some p.d) : scr ps (putA a d r) = putA (scr ps a) d r := by
 cases d with
 | none => rfl
 | some d =>
  refine List.ext_getElem? fun t => ?_
  rw [qaq9]
  simp only [putA, List.getElem?_set]
  by_cases e : d = t
  ·subst e
   have hno : (ps.any fun p => p.d == d) = false := by
    rw [Bool.eq_false_iff]; intro hh
    obtain ⟨p, hp, e⟩ := List.any_eq_true.1 hh
    have e : p.d = d := by simpa using e
    exact h p hp (by rw [e])
   rw [if_pos rfl, if_pos rfl, zI0]
   by_cases hlt : d < a.length
   ·rw [if_pos hlt, Option.map_some, if_neg (by rw [hno]; simp)]
   ·rw [if_neg hlt]; rfl
  ·rw [if_neg e, if_neg e, qaq9]
theorem xbR9 {o : Oper} {t : TypeId} {T : TI} (hop : o.op = .alloc t) (hT : zb0 P t = some T) (hz : T.zero.length = T.sz) (S : St) (ρ : Operand → Value) : ∃ cs : Array Value, T.zero = cs.toList.map vz0 ∧ (∀ u ∈ cs.toList, u.oneCell' = true) ∧
  (execOp ρ o).run P S.w = .ok (.value (.pointer (some ⟨S.w.heap.size, 0, none⟩))) (S.made t cs).w := by
 obtain ⟨i, d, z, hi, hd, hz', h1, hTT⟩ := qc0 hT
 refine ⟨z.cells, by rw [hTT], h1, ?_⟩
 obtain ⟨dst, op, type, pos, after, guard⟩ := o
 simp only at hop
 subst hop
 simp [execOp, Instr.alloc, zeroValue, typeInfo, hi, hz', newVar, newRow, St.made]; rfl
theorem zcp9 {Q : Exit → Act → World → Prop} {ro : Option Nat} (hckA : delayOkA P dl ops = true) (hckB : delayOkB dl ops = true) (hckC : delayOkC dl ops = true) (hQ : ∀ act w, Ends G n0 S0 H0 ds K act w → Q .normal act w) :
  ∀ (f : Nat) (ps : List Pend) (listed lr : Array Bool) (a : List AV) (H : List Blk) (S : St) (act : Act), AAny P G q (delays dl ops) .any K (f + ps.length) listed a H → PInv P G dl ops n0 S0 H0 ds ps listed lr a H S act →
   (List.range ops.length).countP (fun j => !lr.getD j true) = f → wpAnyIn (fen ro) 0 P .any ops.toArray Q f lr act S.w := by
 intro f
 induction f with
 | zero =>
  intro ps listed lr a H S act hA hI hc
  have hr : Region.ready .any ops.toArray lr = [] := by
   refine List.eq_nil_iff_forall_not_mem.2 fun j hj => ?_
   obtain ⟨hu, o, ho, hd⟩ := mem_ready.1 hj
   rw [kF0] at ho
   have hjl : j < ops.length := (List.getElem?_eq_some_iff.1 ho).1
   simp_all
  exact ⟨hr, hQ _ _ (qbR9 hckA hckB _ ps listed a H S 0 rfl hr hA hI)⟩
 | succ f ihf =>
  intro ps listed lr a H S act hA hI hc
  refine ⟨fun hr => hQ _ _ (qbR9 hckA hckB _ ps listed a H S (f + 1) rfl hr hA hI), fun i hi => ?_⟩
  suffices hmain : ∀ (k : Nat) (ps : List Pend) (listed : Array Bool) (a : List AV) (H : List Blk) (S : St), ps.length = k → AAny P G q (delays dl ops) .any K (f + 1 + ps.length) listed a H → PInv P G dl ops n0 S0 H0 ds ps listed lr a H S act → wpOpIn (fen ro) 0 P ops.toArray Q i (wpAnyIn (fen ro) 0 P .any ops.toArray Q f (lr.setIfInBounds i true)) act S.w from hmain _ ps listed a H S rfl hA hI
  clear hA hI ps listed a H S
  intro k
  induction k using Nat.strongRecOn with
  | ind k ihk =>
  intro ps listed a H S hk hA hI
  obtain ⟨hu, o, ho, hdep⟩ := mem_ready.1 hi
  have ho2 := ho
  rw [kF0] at ho2
  have hil : i < ops.length := (List.getElem?_eq_some_iff.1 ho2).1
  have hlri := hI.l.2.2 i hil
  rw [hu] at hlri
  have hli : listed.getD i true = false := by
   grind
  have hnp : ∀ p ∈ ps, p.ja ≠ i := fun p hp e => by
   grind
  have hc2 := wcQ9 hI.l.2.1 hil hu hc
  have hcl2 := qq0 hI.cl hi
  have hjl : ∀ p ∈ ps, p.ja < ops.length := fun p hp => by
   obtain ⟨_, ⟨oa, g2, _⟩, _⟩ := hI.pd p hp
   grind
  have hsl : ∀ p ∈ ps, p.js < ops.length := fun p hp => by
   obtain ⟨g1, _⟩ := hI.pd p hp
   obtain ⟨_, _, _, _, _, _, _, _, f4, _⟩ := vu0 hckA g1
   grind
  -- a store's operation is not done while its allocation waits
  have hjs : ∀ p ∈ ps, lr.getD p.js true = false := fun p hp => by
   obtain ⟨g1, _, _, g4, _⟩ := hI.pd p hp
   rw [hI.l.2.2 _ (hsl p hp), g4, Bool.false_or, Bool.eq_false_iff]
   intro hh
   obtain ⟨p', hp', e⟩ := List.any_eq_true.1 hh
   have e : p'.ja = p.js := by simpa using e
   have h1 := (vu0 hckA (hI.pd p' hp').1).1
   rw [e, (vu0 hckA g1).2.1] at h1; cases h1
  unfold wpOpIn
  simp only [ho]
  by_cases hdl : (dl.lookup i).isSome = true
  ·-- an allocation: it waits
   obtain ⟨js, hjs0⟩ := Option.isSome_iff_exists.1 hdl
   have hmem := kbz9 hjs0
   obtain ⟨_, _, oa, os, t, d, T, f3, f4, f5, f6, f7, f8, f9⟩ := vu0 hckA hmem
   rw [ho2] at f3; injection f3 with f3; subst f3
   obtain ⟨hop, hdst, hgd⟩ := xt0 f5
   have hw : Region.wanted o (yielded ops.toArray act.tmps) = true := by simp [Region.wanted, hgd]
   rw [if_pos hw]
   refine ⟨fun _ _ => trivial, ?_⟩
   obtain ⟨cs, hz1, hz2, hrun⟩ := xbR9 (P := P) hop f6 f7 S act.eval
   rw [Oper.semAt_eq _ _ _ (fun c hc => by rw [hop] at hc; cases hc), hrun]
   show wpAnyIn (fen ro) 0 P .any ops.toArray Q f (lr.setIfInBounds i true) (act.put o.dst (.pointer (some ⟨S.w.heap.size, 0, none⟩))) (S.made t cs).w
   have hdd : ∀ p ∈ ps, o.dst ≠ some p.d := fun p hp => by
    obtain ⟨g1, ⟨oa', g2, g3⟩, _⟩ := hI.pd p hp
    exact (qaK9 hckC ho2 g1 g2 (xt0 g3).2.1 (hnp p hp)).1 hdl
   have hfr : S.Free H S.w.heap.size := ⟨fun ⟨x, hx⟩ => by have := kae9 hI.ok hx; omega, by
    cases h : S.M S.w.heap.size with
    | none => rfl
    | some x => have := M_lt hI.ok (k := S.w.heap.size) (by rw [h]; simp); omega⟩
   refine ihf (⟨i, js, S.w.heap.size, d, t⟩ :: ps) listed (lr.setIfInBounds i true) a H (S.made t cs) (act.put o.dst (.pointer (some ⟨S.w.heap.size, 0, none⟩))) (by rw [List.length_cons]; grind) ?_ hc2
   refine ⟨xcQ9 hI.ok t cs, hI.g, hI.n, hI.ext.trans (kaJ9 S H t cs), ?_, ?_, ⟨hI.l.1, by simpa using hI.l.2.1, fun j hj => ?_⟩, hcl2, fun p hp => ?_, List.pairwise_cons.2 ⟨fun p hp => ⟨fun e => hnp p hp e.symm, fun e => ?_⟩, hI.pw⟩⟩
   ·show RelL (S.env H) (putA (scr ps a) (some d) .top) _
    rw [hdst]
    exact zr0 hI.rel (some d) (by simp [Rel])
   ·have e : (act.put o.dst (.pointer (some ⟨S.w.heap.size, 0, none⟩))).defers = act.defers := by cases o.dst <;> rfl
    rw [e]; exact hI.marks.mono (kaJ9 (n0 := 0) S H t cs)
   ·rw [ku0 hI.l.2.1 hj, hI.l.2.2 j hj, List.any_cons]
    cases listed.getD j true <;> cases (i == j) <;> cases (ps.any fun p => p.ja == j) <;> rfl
   ·rcases List.mem_cons.1 hp with rfl|hp
    ·refine ⟨hmem, ⟨o, ho2, f5⟩, hli, ?_, hI.ext.size, by rw [zaq9]; exact Nat.lt_succ_self _, hfr, fun v hv => ?_, T, cs, f6, f7, hz1, hz2, heap_alloc_new (S.w.drewN 0) _⟩
     ·cases h : listed.getD js true with
      | false => rfl
      | true =>
       have hjl2 : js < ops.length := (List.getElem?_eq_some_iff.1 f4).1
       have h1 : lr.getD js false = true := by rw [xw0 hI.l.2.1 hjl2, hI.l.2.2 _ hjl2, h]; rfl
       obtain ⟨e, he, hb, hon⟩ := xbQ9 f8
       have := hI.cl js os f4 h1 e he hb
       rw [hon, xw0 hI.l.2.1 hil, hu] at this; cases this
     grind [Array.getElem?_eq_some_iff, Act.put]
    ·obtain ⟨g1, g2, g3, g4, g5, g6, g7, g8, g9⟩ := hI.pd p hp
     exact waU9 (hI.pd p hp) (by rw [zaq9]; omega) (fun hf => St.Free.ext hf g6 (kaJ9 (n0 := 0) S H t cs)) (vaU9 (hdd p hp)) g3 g4
   ·have := hI.pd p hp
    obtain ⟨_, _, _, _, _, g6, _⟩ := this
    grind
  ·have hdl' : (dl.lookup i).isSome = false := Bool.eq_false_iff.2 hdl
   by_cases hpe : ∃ p ∈ ps, p.ja ∈ aft o
   ·-- the allocation is taken over
    obtain ⟨p, hp, hpa⟩ := hpe
    obtain ⟨g1, ⟨oa, g2, g3⟩, g4, g5, g6⟩ := hI.pd p hp
    have hdn : ∀ x ∈ aft o, lr.getD x true = true := fun x hx => by
     obtain ⟨e, he, hb, rfl⟩ := xbQ9 hx
     grind [xI0, vi0, vT0, wz0, xw0]
    have hji : p.js = i := by
     rcases (qaK9 hckC ho2 g1 g2 (xt0 g3).2.1 (hnp p hp)).2 hdl' with ⟨_, h|h⟩|⟨h, _⟩
     ·exact h
     ·grind
     ·exact absurd hpa h
    obtain ⟨f1, f2, oa', os, t, d, T, f3, f4, f5, f6, f7, f8, f9⟩ := vu0 hckA g1
    rw [g2] at f3; injection f3 with f3; subst f3
    rw [hji, ho2] at f4; injection f4 with f4; subst f4
    obtain ⟨l1, l2, hps⟩ := List.append_of_mem hp
    have hlen : ps.length = (l1 ++ l2).length + 1 := by rw [hps]; simp; omega
    have hla : lr.getD p.ja true = true := zaU9 hI.l hp (hjl p hp)
    have hr2 : p.ja ∈ Region.ready .any (delays dl ops).toArray listed := by
     refine mem_ready.2 ⟨g4, xo0 dl ops p.ja oa, by rw [kF0, vi0, g2]; rfl, fun e he hb => ?_⟩
     have hlt : e.on < p.ja := xI0 hckB (by rw [vi0, g2]; rfl) e.on (wz0 he hb)
     have hpl := hjl p hp
     rw [xw0 hI.l.1 (by omega)]
     -- it is listed for the machine
     have h12 : lr.getD e.on true = true ∧ e.on ∈ aft oa ++ aft o := by
      have hin : e ∈ oa.after ∨ e ∈ o.after := by
       unfold xo0 at he
       rw [f1] at he
       simp only [hji, ho2] at he
       grind
      rcases hin with h|h
      ·have h1 := hI.cl p.ja oa g2 (by rw [xw0 hI.l.2.1 hpl]; exact hla) e h hb
       grind [xw0, List.mem_append_left, wz0]
      grind [wz0, List.mem_append_right]
     rw [hI.l.2.2 _ (by omega)] at h12
     cases hv : listed.getD e.on true with
     | true => rfl
     | false =>
      exfalso
      rw [hv, Bool.false_or] at h12
      obtain ⟨p', hp', e1⟩ := List.any_eq_true.1 h12.1
      have e1 : p'.ja = e.on := by simpa using e1
      have hl' := (vu0 hckA (hI.pd p' hp').1).1
      grind
    rw [hlen, ← Nat.add_assoc] at hA
    obtain ⟨a', H', S', hA', hw, hI'⟩ := xaU9 hckA hps hI hr2 hA
    have := ihk (l1 ++ l2).length (by omega) (l1 ++ l2) _ a' H' S' rfl hA' hI'
    unfold wpOpIn at this
    simp only [ho] at this
    rw [hw] at this; exact this
   ·-- any other operation
    have hno : ∀ p ∈ ps, p.ja ∉ aft o := fun p hp h => hpe ⟨p, hp, h⟩
    have hap : ∀ p ∈ ps, p.d ∉ o.looksAt ops.toArray ∧ o.dst ≠ some p.d := fun p hp => by
     obtain ⟨g1, ⟨oa, g2, g3⟩, _⟩ := hI.pd p hp
     rcases (qaK9 hckC ho2 g1 g2 (xt0 g3).2.1 (hnp p hp)).2 hdl' with ⟨h, _⟩|⟨_, h⟩
     ·exact absurd h (hno p hp)
     ·exact h
    have hdo : xo0 dl ops i o = o := by
     unfold xo0
     have : dl.lookup i = none := by
      cases h : dl.lookup i with
      | none => rfl
      | some x => rw [h] at hdl'; cases hdl'
     rw [this]
    have hr2 : i ∈ Region.ready .any (delays dl ops).toArray listed := by
     refine mem_ready.2 ⟨hli, o, by rw [kF0, vi0, ho2, Option.map_some, hdo], fun e he hb => ?_⟩
     have hlt : e.on < i := xI0 hckB (by rw [vi0, ho2]; rfl) e.on (vT0 (wz0 he hb))
     have h1 := hdep e he hb
     rw [xw0 hI.l.2.1 (by omega), hI.l.2.2 _ (by omega)] at h1
     rw [xw0 hI.l.1 (by omega)]
     cases hv : listed.getD e.on true with
     | true => rfl
     | false =>
      rw [hv, Bool.false_or] at h1
      obtain ⟨p', hp', e1⟩ := List.any_eq_true.1 h1
      grind [absurd, wz0]
    rw [show f + 1 + ps.length = f + ps.length + 1 from by omega] at hA
    obtain ⟨o', ho', r, H', hs, hA'⟩ := hA.2 i hr2
    rw [vi0, ho2, Option.map_some, hdo] at ho'
    injection ho' with ho'; subst ho'
    have hs1 := (wy0 dl rfl rfl).1 hs.1
    have hs2 := qaU9 (ops := ops) ps (fun p hp => (hap p hp).1) hs1
    refine kai9 hs2 hI.ok hI.g hI.rel fun v S' h1 h2 h3 => ?_
    refine ihf ps (listed.setIfInBounds i true) (lr.setIfInBounds i true) (putA a o.dst r) H' S' (act.put o.dst v) hA' ?_ hc2
    refine ⟨h1, hI.g.mono h2.M, Nat.le_trans hI.n (h2.len (Nat.le_refl _)), hI.ext.trans (h2.less hI.n (Nat.le_refl _)), ?_, ?_, ⟨by simpa using hI.l.1, by simpa using hI.l.2.1, fun j hj => ?_⟩, hcl2, fun p hp => ?_, hI.pw⟩
    ·rw [vcQ9 fun p hp => (hap p hp).2]
     exact zr0 (RelL.mono (h2.le (Nat.le_refl _)) _ _ hI.rel) _ h3
    ·have e : (act.put o.dst v).defers = act.defers := by cases o.dst <;> rfl
     rw [e]; exact hI.marks.mono h2
    ·rw [ku0 hI.l.2.1 hj, ku0 hI.l.1 hj, hI.l.2.2 j hj]
     cases listed.getD j true <;> cases (i == j) <;> cases (ps.any fun p => p.ja == j) <;> rfl
    ·obtain ⟨g1, g2, g3, g4, g5, g6, g7, g8, g9⟩ := hI.pd p hp
     have hne2 : p.js ≠ i := fun e => by
      obtain ⟨_, _, _, os, _, _, _, _, f4, _, _, _, f8, _⟩ := vu0 hckA g1
      grind
     refine waU9 (hI.pd p hp) h2.size (fun hf => St.Free.ext hf g6 h2) (vaU9 (hap p hp).2) ?_ ?_
     ·grind [ku0]
     grind [ku0]
end
end
end Go.V
set_option linter.unusedVariables false
set_option linter.unusedSimpArgs false
set_option autoImplicit false
namespace Go.V
open Go Go.RowKit
section
variable {P : Program} {G : Glob} {q : Operand → Bool}
def topB : AV → Option Nat
 | .ptr b _ _ _ => some b
 | .own b _ _ _ => some b
 | .sub b _ _ _ => some b
 | .mp b => some b
 | _ => none
def apB (v w : AV) : Bool := match topB v.strip, topB w.strip with
 | some b, some b' => b != b'
 | _, _ => true
def rdOp : Op → Option Nat
 | .load _ (.tmp x) => some x
 | .fieldAddr _ (.tmp x) _ => some x
 | .indexAddr _ (.tmp x) _ => some x
 | .slice _ (.tmp x) _ _ _ => some x
 | .nilCheck (.tmp x) => some x
 | .call { callee := .builtin .len, args, argTypes } => match args.toList with|[.tmp x] => some x|_ => none
 | .buildSlice _ _ parts => match parts.toList with|[(_, .tmp x)] => some x|_ => none
 | _ => none
def kT0 : Op → Option (Option Nat)
 | .store _ (.tmp y) _ => some (some y)
 | .makeSlice _ _ _ => some none
 | .call { callee := .builtin .append, args, argTypes } => match args.toList with|[.tmp y, _] => some (some y)|_ => none
 | .call { callee := .builtin .copy, args, argTypes } => match args.toList with|[.tmp y, _] => some (some y)|_ => none
 | .call { callee := .value _, .. } => some none
 | .alloc _ => some none
 | _ => none
def qbA9 (N : Nat → Prop) (H H' : List Blk) : Prop := ∀ b B, N b → H[b]? = some B → H'[b]? = some B
theorem xv0 {H H2 : List Blk} {b h : Nat} (hl : wf0 H b h = true) (hk : ∀ B, H[b]? = some B → H2[b]? = some B) : wf0 H2 b h = true := by
 grind [wf0, shOf, b]
section
variable {H H2 : List Blk} {v : AV}
theorem zbA9 {t : TypeId} (h : (xK0 P H t v).1 = true) (hk : ∀ b B, topB v = some b → H[b]? = some B → H2[b]? = some B) : xK0 P H2 t v = xK0 P H t v := by
 unfold xK0 at *
 cases hT : zb0 P t with
 | none => rfl
 | some T =>
  rw [hT] at h
  cases v <;> try rfl
  rename_i b i o hh
  simp only at h ⊢
  cases hb : H[b]? with
  | none => simp [hb, bad] at h
  | some B => rw [hk b B rfl hb]
theorem waq9 {s : TypeId} {f : Nat} (h : (ql0 P H s v f).1 = true) (hk : ∀ b B, topB v = some b → H[b]? = some B → H2[b]? = some B) : ql0 P H2 s v f = ql0 P H s v f := by
 unfold ql0 at *
 cases hF : zE0 P s f with
 | none => rfl
 | some oF =>
  rw [hF] at h
  obtain ⟨off, F⟩ := oF
  cases v <;> try rfl
  rename_i b i o hh
  simp only [Bool.and_eq_true] at h ⊢
  rw [h.1, xv0 h.1 fun B hB => hk b B rfl hB]
theorem vaq9 {t : TypeId} {w : AV} (h : (zl0 P H t v w).1 = true) (hk : ∀ b B, topB v = some b → H[b]? = some B → H2[b]? = some B) : zl0 P H2 t v w = zl0 P H t v w := by
 unfold zl0 at *
 cases w <;> try rfl
 cases hs : shp P t <;> simp only [hs] at h ⊢
 ·rename_i e
  cases hT : zb0 P e with
  | none => rfl
  | some T =>
   rw [hT] at h
   cases v <;> try rfl
   rename_i b m hh c
   simp only at h ⊢
   unfold shOf at *
   cases hb : H[b]? with
   | none => simp [hb, bad] at h
   | some B => rw [hk b B rfl hb]
 ·rename_i e
  cases hT : zb0 P e with
  | none => rfl
  | some T =>
   rw [hT] at h
   cases v <;> try rfl
   rename_i b i o hh
   simp only [Bool.and_eq_true] at h ⊢
   rw [h.1.1, xv0 h.1.1 fun B hB => hk b B rfl hB]
theorem vbf9 {t : TypeId} {lo hi mx : Option AV} (h : (zD0 P H t v lo hi mx).1 = true) (hk : ∀ b B, topB v = some b → H[b]? = some B → H2[b]? = some B) : zD0 P H2 t v lo hi mx = zD0 P H t v lo hi mx := by
 cases v with
 | own b n h0 c =>
  have key : wf0 H b h0 = true → wf0 H2 b h0 = true := fun hl => xv0 hl fun B hB => hk b B rfl hB
  unfold zD0 at *
  cases hlo : vaO9 lo with
  | none => rfl
  | some l =>
   simp only [hlo] at h ⊢
   cases hs : shp P t <;> simp only [hs] at h ⊢
   rename_i e
   cases hT : zb0 P e with
   | none => rfl
   | some T =>
    simp only [hT] at h ⊢
    cases hh : kK0 hi n with
    | none => rfl
    | some x =>
     simp only [hh] at h ⊢
     cases mx with
     | none =>
      by_cases hl0 : l = 0
      ·grind
      ·simp only [if_neg hl0, Bool.and_eq_true] at h ⊢
       have he : shOf H2 b = shOf H b := by
        have h1 := h.1.1.1.1
        unfold wf0 at h1
        cases hb : H[b]? with
        | none => simp [shOf, hb] at h1
        | some B => simp [shOf, hb, hk b B rfl hb]
       rw [h.1.1.1.1, key h.1.1.1.1, he]
     | some y =>
      grind
 | iptr cs o =>
  grind [zD0, vaO9, shp]
 | _ =>
  unfold zD0
  cases vaO9 lo with
  | none => rfl
  | some l => cases shp P t <;> rfl
end
theorem xbA9 {H H2 : List Blk} {v : AV} {cs : List AV} (h : v.cells? H = some cs) (hk : ∀ b B, topB v = some b → H[b]? = some B → H2[b]? = some B) : v.cells? H2 = some cs := by
 have key : ∀ {b n : Nat}, topB v = some b → wf0 H b n = true → wf0 H2 b n = true := fun hb hl => xv0 hl fun B hB => hk _ B hb hB
 cases v with
 | own b n hh c =>
  simp only [AV.cells?] at h ⊢
  by_cases hl : (AV.own b n hh c).live H = true
  ·rw [if_pos hl] at h; rw [if_pos (show (AV.own b n hh c).live H2 = true from key rfl hl)]; exact h
  ·rw [if_neg hl] at h; cases h
 | ptr b i o hh =>
  simp only [AV.cells?] at h ⊢
  by_cases hl : (AV.ptr b i o hh).live H = true
  ·rw [if_pos hl] at h; rw [if_pos (show (AV.ptr b i o hh).live H2 = true from key rfl hl)]; exact h
  ·rw [if_neg hl] at h; cases h
 | lit u => cases u <;> exact h
 | _ => exact h
theorem zah9 {H H2 : List Blk} {t : TypeId} {len i : Nat} {v : AV} (h : (qi0 P H t len [(i, v)]).1 = true) (hk : ∀ b B, topB v = some b → H[b]? = some B → H2[b]? = some B) : qi0 P H2 t len [(i, v)] = qi0 P H t len [(i, v)] := by
 unfold qi0 at *
 split at h
 ·split at h
  ·rename_i E hE
   cases hc : v.cells? H with
   | none => simp only [qN0, hc] at h; cases h
   | some cs => grind [qN0, xbA9]
  ·rfl
 ·rfl
theorem wbR9 {H H2 : List Blk} {v : AV} {t : TypeId} (h : (pLen P H t v).1 = true) (hk : ∀ b B, topB v = some b → H[b]? = some B → H2[b]? = some B) : pLen P H2 t v = pLen P H t v := by
 cases v with
 | own b n h0 c =>
  have key : wf0 H b h0 = true → wf0 H2 b h0 = true := fun hl => xv0 hl fun B hB => hk b B rfl hB
  unfold pLen at *
  grind [shp, vv0]
 | mp b =>
  have e : vv0 H2 (.mp b) = vv0 H (.mp b) ∨ H[b]? = none := by
   cases hb : H[b]? with
   | none => exact .inr rfl
   | some B => left; simp only [vv0, hb, hk b B rfl hb]
  unfold pLen at *
  grind [shp, vv0, bad]
 | lit u =>
  have e : vv0 H2 (.lit u) = vv0 H (.lit u) := by cases u <;> first|rfl|(rename_i m; cases m <;> rfl)
  unfold pLen
  grind
 | _ => unfold pLen; cases shp P t <;> rfl
theorem wbA9 {o : Op} {x : Nat} {ρ : Operand → AV} {H H2 : List Blk} (ho : rdOp o = some x) (h : (zc0 P o ρ H).1 = true) (hk : ∀ b B, topB (ρ (.tmp x)).strip = some b → H[b]? = some B → H2[b]? = some B) : zc0 P o ρ H2 = zc0 P o ρ H := by
 cases o with
 | load t p =>
  cases p <;> simp only [rdOp, Option.some.injEq, reduceCtorEq] at ho
  subst ho
  simp only [zc0, Bool.and_eq_true] at h ⊢
  rw [zbA9 h.2 hk]
 | fieldAddr s p f =>
  cases p <;> simp only [rdOp, Option.some.injEq, reduceCtorEq] at ho
  subst ho
  simp only [zc0, Bool.and_eq_true] at h ⊢
  rw [waq9 h.2 hk]
 | indexAddr t p i =>
  cases p <;> simp only [rdOp, Option.some.injEq, reduceCtorEq] at ho
  subst ho
  simp only [zc0, Bool.and_eq_true] at h ⊢
  rw [vaq9 h.2.2 hk]
 | slice t p lo hi mx =>
  cases p <;> simp only [rdOp, Option.some.injEq, reduceCtorEq] at ho
  subst ho
  simp only [zc0, Bool.and_eq_true] at h ⊢
  rw [vbf9 h.2 hk]
 | nilCheck p =>
  cases p <;> simp only [rdOp, Option.some.injEq, reduceCtorEq] at ho
  subst ho
  simp only [zc0] at h ⊢
  split at h
  ·rename_i b i o hh he
   rw [Bool.and_eq_true] at h
   rw [h.2, xv0 h.2 fun B hB => hk b B (by rw [he]; rfl) hB]
  ·rfl
  ·rfl
  ·cases h
 | call c =>
  obtain ⟨callee, args, argTypes⟩ := c
  cases callee with
  | builtin b =>
   cases b with
   | len =>
    simp only [rdOp] at ho
    split at ho
    ·rename_i x' hp
     injection ho with ho; subst ho
     simp only [zc0, hp] at h ⊢
     split at h
     ·rename_i x2 t1 ts e1 e2
      injection e1 with e1 _
      subst e1
      simp only [Bool.and_eq_true] at h
      simp only [e2, wbR9 h.2 hk]
     ·cases h
    ·cases ho
   | _ => simp [rdOp] at ho
  | _ => simp [rdOp] at ho
 | buildSlice t len parts =>
  simp only [rdOp] at ho
  split at ho
  ·rename_i i x' hp
   injection ho with ho; subst ho
   simp only [zc0, hp, List.map_cons, List.map_nil, Bool.and_eq_true] at h ⊢
   rw [zah9 h.2 hk]
  ·cases ho
 | _ => simp [rdOp] at ho
theorem zaK9 {H : List Blk} {b b' : Nat} {B X : Blk} (hne : b' ≠ b) (h : H[b']? = some B) : (H.set b X)[b']? = some B := by grind
theorem kaq9 {H : List Blk} {b' : Nat} {B X : Blk} (h : H[b']? = some B) : (H ++ [X])[b']? = some B := by
 grind
theorem kbf9 {H : List Blk} {t : TypeId} {p x : AV} {b' : Nat} {B : Blk} (h : (wR0 P H t p x).1 = true) (hne : topB p ≠ some b') (hb : H[b']? = some B) : (wR0 P H t p x).2.2[b']? = some B := by
 unfold wR0 at *
 split at h
 ·rename_i T b i o hh cs h1 h2
  split at h
  ·rename_i s bt es h3
   exact zaK9 (fun e => hne (by rw [e]; rfl)) hb
  ·cases h
 ·cases h
theorem vbA9 {H : List Blk} {t : TypeId} {l c : AV} {b' : Nat} {B : Blk} (h : (zaw9 P H t l c).1 = true) (hb : H[b']? = some B) : (zaw9 P H t l c).2.2[b']? = some B := by
 unfold zaw9 at *
 split at h
 ·split at h
  ·exact kaq9 hb
  ·cases h
 ·cases h
theorem kaU9 {H : List Blk} {t t1 : TypeId} {d x : AV} {b' : Nat} {B : Blk} (h : (vp0 P H t t1 d x).1 = true) (hne : topB d ≠ some b') (hb : H[b']? = some B) : (vp0 P H t t1 d x).2.2[b']? = some B := by
 unfold vp0 at *
 split at h
 ·rename_i e hsh
  split at h
  ·rename_i E hE
   split at h
   ·rename_i news hn
    split at h
    ·rename_i b n hh c
     split at h
     ·rename_i s bt es h3
      have hx : b' ≠ b := fun e => hne (by rw [e]; rfl)
      grind
     ·cases h
    ·rename_i s es c
     cases news with
     | nil => exact hb
     | cons y ys =>
      cases c with
      | none => cases h
      | some k => exact kaq9 hb
    ·cases h
   ·cases h
  ·cases h
 ·cases h
theorem qaV9 {H : List Blk} {t t1 : TypeId} {d x : AV} {b' : Nat} {B : Blk} (h : (vp0 P H t t1 d x).1 = true) (hne : topB d ≠ some b') (hnr : topB (vp0 P H t t1 d x).2.1 ≠ some b') (hb : (vp0 P H t t1 d x).2.2[b']? = some B) : H[b']? = some B := by
 have hset : ∀ (b : Nat) (X : Blk), b' ≠ b → (H.set b X)[b']? = some B → H[b']? = some B := fun b X hn hx => by grind
 have hpush : ∀ X : Blk, b' ≠ H.length → (H ++ [X])[b']? = some B → H[b']? = some B := fun X hn hx => by
  grind
 unfold vp0 at *
 split at h
 ·rename_i e hsh
  split at h
  ·rename_i E hE
   split at h
   ·rename_i news hn
    split at h
    ·rename_i b n hh c
     split at h
     ·rename_i s bt es h3
      have hx : b' ≠ b := fun e => hne (by rw [e]; rfl)
      cases c with
      | none => grind
      | some k =>
       simp only [hsh, hE, hn, h3] at hb hnr
       split at hb
       ·exact hset _ _ hx hb
       ·rename_i hk
        rw [if_neg hk] at hnr
        exact hpush _ (fun e => hnr (by rw [e]; rfl)) hb
     ·cases h
    ·rename_i s es c
     cases news with
     | nil => grind
     | cons y ys =>
      cases c with
      | none => cases h
      | some k =>
       simp only [hsh, hE, hn] at hb hnr
       exact hpush _ (fun e => hnr (by rw [e]; rfl)) hb
    ·cases h
   ·cases h
  ·cases h
 ·cases h
theorem kbA9 {H : List Blk} {t : TypeId} {d x : AV} {b' : Nat} {B : Blk} (h : (zaH9 P H t d x).1 = true) (hne : topB d ≠ some b') (hb : H[b']? = some B) : (zaH9 P H t d x).2.2[b']? = some B := by
 unfold zaH9 at *
 split at h
 ·split at h
  ·rename_i e hsh E hE
   split at h
   ·rename_i news b i n hh hs hd
    split at h
    ·rename_i s bt es h3
     have hx : b' ≠ b := fun e => hne (by rw [e]; cases d <;> simp [zan9] at hd <;> simp [topB, hd])
     exact zaK9 hx hb
    ·cases h
   ·cases h
  ·cases h
 ·cases h
theorem qbg9 {H : List Blk} {t : TypeId} {b' : Nat} {B : Blk} (h : (xL0 P H t).1 = true) (hb : H[b']? = some B) : (xL0 P H t).2.2[b']? = some B := by
 unfold xL0 at *
 split at h
 ·exact kaq9 hb
 ·cases h
theorem qbB9 {o : Op} {y : Option Nat} {ρ : Operand → AV} {H : List Blk} {b' : Nat} {B : Blk} (ho : kT0 o = some y) (h : (kc0 P o ρ H).1 = true) (hne : ∀ t, y = some t → topB (ρ (.tmp t)).strip ≠ some b') (hb : H[b']? = some B) : (kc0 P o ρ H).2.2[b']? = some B := by
 unfold kT0 at ho
 split at ho
 ·injection ho with ho; subst ho
  simp only [kc0, Bool.and_eq_true] at h ⊢
  exact kbf9 h.2.2 (hne _ rfl) hb
 ·injection ho with ho; subst ho
  simp only [kc0, Bool.and_eq_true] at h ⊢
  exact vbA9 h.2.2 hb
 ·rename_i args argTypes
  split at ho
  ·rename_i t x ha
   injection ho with ho; subst ho
   simp only [kc0, ha] at h ⊢
   split at h
   ·rename_i d x' t1 t2 e1 e2
    injection e1 with e1 e3; injection e3 with e3 _
    subst e1; subst e3
    simp only [e2, Bool.and_eq_true] at h ⊢
    exact kaU9 h.2.2 (hne _ rfl) hb
   ·cases h
  ·cases ho
 ·rename_i args argTypes
  split at ho
  ·rename_i t x ha
   injection ho with ho; subst ho
   simp only [kc0, ha] at h ⊢
   split at h
   ·rename_i d x' t1 t2 e1 e2
    injection e1 with e1 e3; injection e3 with e3 _
    subst e1; subst e3
    simp only [e2, Bool.and_eq_true] at h ⊢
    exact kbA9 h.2.2 (hne _ rfl) hb
   ·cases h
  ·cases ho
 ·simp [kc0, bad3] at h
 ·injection ho with ho; subst ho
  simp only [kc0] at h ⊢
  exact qbg9 h hb
 ·cases ho
def zab9 : Op → Bool
 | .call { callee := .builtin .append, .. } => true
 | _ => false
theorem kbo9 {o : Op} (h : isMk o = true) : zab9 o = false := by
 cases o <;> first|rfl|(simp [isMk] at h)
theorem vbR9 {o : Op} {y : Option Nat} (ha : zab9 o = true) (h : kT0 o = some y) : ∃ t, y = some t := by
 unfold kT0 at h
 grind [zab9]
theorem zbB9 {o : Op} {y : Nat} {ρ : Operand → AV} {H : List Blk} {b' : Nat} {B : Blk} (ha : zab9 o = true) (ho : kT0 o = some (some y)) (h : (kc0 P o ρ H).1 = true) (hne : topB (ρ (.tmp y)).strip ≠ some b') (hnr : topB (kc0 P o ρ H).2.1.strip ≠ some b') (hb : (kc0 P o ρ H).2.2[b']? = some B) : H[b']? = some B := by
 unfold kT0 at ho
 split at ho
 ·simp [zab9] at ha
 ·simp [zab9] at ha
 ·rename_i args argTypes
  split at ho
  ·rename_i t x hargs
   injection ho with ho; injection ho with ho; subst ho
   simp only [kc0, hargs] at h hb hnr
   split at h
   ·rename_i d x' t1 t2 e1 e2
    injection e1 with e1 e3; injection e3 with e3 _
    subst e1; subst e3
    simp only [e2, Bool.and_eq_true] at h hb hnr
    have key : ∀ v : AV, topB v = some b' → topB v.strip = some b' := fun v hv => by
     cases v <;> first|exact hv|(simp [topB] at hv)
    grind [qaV9]
   ·cases h
  ·cases ho
 ·simp [zab9] at ha
 ·simp [zab9] at ha
 ·simp [zab9] at ha
 ·cases ho
def xcp9 (o : Oper) : Nat := match o.dst with
 | some d => d
 | none => match o.op with|.store _ (.tmp y) _ => y|_ => 0
def xah9 (rs : List (Nat × Nat)) (o : Oper) : Bool := match o.dst, o.guard, rdOp o.op with
 | some d, none, some x => rs.contains (d, x)
 | _, _, _ => false
def qU0 (es : List (Nat × Option Nat)) (o : Oper) : Bool := match kT0 o.op with
 | some y => es.contains (xcp9 o, y) && o.guard.isNone
 | none => false
def zbg9 (es : List (Nat × Option Nat)) (o : Oper) : Bool := qU0 es o && zab9 o.op && (match o.dst with|some d => es.any fun y => y.2 == some d|none => false)
def eFlagM (es : List (Nat × Option Nat)) (o : Oper) : Bool := isMk o.op && o.guard.isNone && (match o.dst with|some d => es.contains (d, some d)|none => false)
theorem xbg9 {es : List (Nat × Option Nat)} {o : Oper} (h : eFlagM es o = true) : ∃ d, isMk o.op = true ∧ o.guard = none ∧ o.dst = some d ∧ (d, some d) ∈ es := by
 unfold eFlagM at h
 simp only [Bool.and_eq_true, Option.isNone_iff_eq_none] at h
 grind
theorem kbR9 {N : Nat → Prop} {o : Op} {ρ : Operand → AV} {H H' : List Blk} {b : Nat} {r : AV} (h : MkAt P o ρ H b r H') (hk : qbA9 N H H') : ¬ N b := fun hn => by
 unfold MkAt at h
 cases o with
 | makeSlice t l c =>
  simp only [qF0, Bool.and_eq_true] at h
  obtain ⟨⟨_, h2⟩, _, h4⟩ := h
  obtain ⟨s, e, es, n, cc, q1, q2, q3, _⟩ := ws0 h2
  rw [q3] at h4
  have := hk b _ hn q1
  grind
 | _ => exact absurd h.1 (by simp [qF0, bad3])
theorem xab9 {N : Nat → Prop} {o : Op} {ρ : Operand → AV} {H H' : List Blk} {b : Nat} {r : AV} (h : MkAt P o ρ H b r H') (hn : ¬ N b) : qbA9 N H H' := fun b' B hb hB => by
 unfold MkAt at h
 cases o with
 | makeSlice t l c =>
  simp only [qF0, Bool.and_eq_true] at h
  grind [ws0, zaK9]
 | _ => exact absurd h.1 (by simp [qF0, bad3])
theorem wcp9 {o : Op} {ρ : Operand → AV} {H H' : List Blk} {b : Nat} {r : AV} (h : MkAt P o ρ H b r H') : topB r.strip = some b := by
 unfold MkAt at h
 cases o with
 | makeSlice t l c =>
  simp only [qF0, Bool.and_eq_true] at h
  obtain ⟨⟨_, h2⟩, h3, _⟩ := h
  obtain ⟨s, e, es, n, cc, q1, q2, q3, _⟩ := ws0 h2
  rw [h3, q3]; rfl
 | _ => exact absurd h.1 (by simp [qF0, bad3])
theorem qbp9 {ops : List Oper} {o : Oper} {a : List AV} {v : AV} {d : Option Tmp} (h : ∀ t, d = some t → t ∉ o.looksAt ops.toArray) {x : Operand} (hx : x ∈ o.op.operands) : ev G (putA a d v) x = ev G a x := wbI9 fun t ht hxt => h t ht (by
  subst hxt
  exact List.mem_append_left _ (List.mem_filterMap.2 ⟨.tmp t, by simpa using hx, rfl⟩))
theorem zU0 {o : Oper} (h : mFlag q o = true) : effD q o.op = true ∧ isMk o.op = true ∧ o.guard = none ∧ zy0 o.op = false ∧ rdOp o.op = none := by
 simp only [mFlag, Bool.and_eq_true, Bool.not_eq_true', Option.isNone_iff_eq_none] at h
 obtain ⟨⟨⟨h1, h2⟩, h3⟩, h4⟩ := h
 cases ho : o.op <;> rw [ho] at h3 <;> first|(exact Bool.noConfusion h3)|skip
 exact ⟨by simp [effD, wu0, h1], h3, h4, rfl, rfl⟩
theorem wI0 {rs : List (Nat × Nat)} {o : Oper} (h : xah9 rs o = true) : ∃ d x, o.dst = some d ∧ o.guard = none ∧ rdOp o.op = some x ∧ (d, x) ∈ rs := by
 grind [xah9]
theorem qaB9 {es : List (Nat × Option Nat)} {o : Oper} (h : qU0 es o = true) : ∃ y, kT0 o.op = some y ∧ o.guard = none ∧ (xcp9 o, y) ∈ es := by
 unfold qU0 at h
 split at h
 ·simp_all
 ·cases h
theorem zaV9 {c : Call} {f : Operand} (h : c.callee = .value f) : rdOp (.call c) = none := by
 obtain ⟨callee, args, argTypes⟩ := c
 cases h
 rfl
theorem xU0 {o : Op} {x : Nat} (h : rdOp o = some x) : effD q o = false := by
 cases o with
 | call c =>
  obtain ⟨callee, args, argTypes⟩ := c
  cases callee with
  | builtin b => cases b <;> first|rfl|(simp [rdOp] at h; done)
  | _ => simp [rdOp] at h
 | _ => first|(simp [rdOp] at h; done)|rfl
theorem qbS9 {o : Op} {x : Nat} (h : rdOp o = some x) : isMk o = false := by
 cases o with
 | call c =>
  obtain ⟨callee, args, argTypes⟩ := c
  cases callee with
  | builtin b => cases b <;> first|rfl|(simp [rdOp] at h; done)
  | _ => simp [rdOp] at h
 | _ => first|(simp [rdOp] at h; done)|rfl
theorem vcp9 {o : Op} {x : Nat} (h : rdOp o = some x) : wu0 o = false := by
 cases o with
 | call c =>
  obtain ⟨callee, args, argTypes⟩ := c
  cases callee with
  | builtin b => cases b <;> first|rfl|(simp [rdOp] at h; done)
  | _ => simp [rdOp] at h
 | _ => first|(simp [rdOp] at h; done)|rfl
section
variable {ops : List Oper} {md : Region.Mode} {rs : List (Nat × Nat)} {es : List (Nat × Option Nat)} {N : Nat → Prop} {K : List AV → List Blk → Prop}
def wbg9 (q : Operand → Bool) (o : Oper) : Bool := pcF q && isVC o.op && o.guard.isNone && !effD q o.op
theorem wab9 {o : Oper} (h : wbg9 q o = true) : pcF q = true ∧ isVC o.op = true ∧ o.guard = none ∧ effD q o.op = false := by
 simp_all [wbg9, Bool.and_eq_true, Option.isNone_iff_eq_none, Bool.not_eq_true']
def xaV9 (P : Program) (G : Glob) (q : Operand → Bool) (ops : List Oper) (rs : List (Nat × Nat)) (es : List (Nat × Option Nat)) (N : Nat → Prop) (o : Oper) (a : List AV) (H : List Blk) (r : AV) (H' : List Blk) : Prop :=
 waQ9 P G q ops o a H r H' ∧ (xah9 rs o = true → ∀ H2, qbA9 N H H2 → wi0 P G ops o a H2 r H2) ∧ ((qU0 es o || eFlagM es o) = true → qbA9 N H H') ∧ (mFlag q o = true → ∃ b, MkAt P o.op (ev G a) H b r H') ∧ (zbg9 es o = true → qbA9 N H' H) ∧ (wbg9 q o = true → ∀ H2, wi0 P G ops o a H2 r H2)
def zbS9 (P : Program) (G : Glob) (q : Operand → Bool) (ops : List Oper) (rs : List (Nat × Nat)) (es : List (Nat × Option Nat)) (N : Nat → Prop) (md : Region.Mode) (K : List AV → List Blk → Prop) : Nat → Array Bool → List AV → List Blk → Prop
 | 0, listed, a, H => Region.ready md ops.toArray listed = [] ∧ K a H
 | fuel + 1, listed, a, H => (Region.ready md ops.toArray listed = [] → K a H) ∧
   ∀ i ∈ Region.ready md ops.toArray listed, ∃ o, ops[i]? = some o ∧ ∃ r H', xaV9 P G q ops rs es N o a H r H' ∧ zbS9 P G q ops rs es N md K fuel (listed.setIfInBounds i true) (putA a o.dst r) H'
theorem zaB9 : ∀ (fuel : Nat) (listed : Array Bool) (a : List AV) (H : List Blk), zbS9 P G q ops rs es N md K fuel listed a H → AAny P G q ops md K fuel listed a H
 | 0, _, _, _, h => h
 | fuel + 1, _, _, _, h => ⟨h.1, fun i hi => by
  obtain ⟨o, ho, r, H', hs, hA⟩ := h.2 i hi
  exact ⟨o, ho, r, H', hs.1, zaB9 fuel _ _ _ hA⟩⟩
theorem vbg9 {i : Nat} {oi : Oper} {r : AV} {T : Nat} (hT : xF0 md ops T) (hi256 : i < 256) (hi : ops[i]? = some oi) :
  ∀ (fuel : Nat) (listed : Array Bool) (a : List AV) (H H' : List Blk), xD0 md ops listed →
   (∀ j oj, ops[j]? = some oj → j ≠ i → listed.getD j true = false → T.testBit (j * 256 + i) = true ∨ ((zbd9 q oi.op oj.op = true ∨ (xah9 rs oi = true ∧ (qU0 es oj || eFlagM es oj) = true) ∨ (mFlag q oi = true ∧ mFlag q oj = true) ∨ (zbg9 es oi = true ∧ xah9 rs oj = true) ∨ wbg9 q oi = true ∨ wbg9 q oj = true) ∧ oi.apart ops.toArray oj = true)) →
   i ∈ Region.ready md ops.toArray listed → xaV9 P G q ops rs es N oi a H r H' → zbS9 P G q ops rs es N md K fuel (listed.setIfInBounds i true) (putA a oi.dst r) H' → zbS9 P G q ops rs es N md K (fuel + 1) listed a H := by
 intro fuel
 induction fuel with
 | zero =>
  intro listed a H H' hc hfree hr hs hA
  refine ⟨fun h => (by rw [h] at hr; cases hr), fun j hj => ?_⟩
  by_cases hji : j = i
  ·grind
  ·have := ready_mono hj hji
   rw [hA.1] at this
   cases this
 | succ fuel ih =>
  intro listed a H H' hc hfree hr hs hA
  refine ⟨fun h => (by rw [h] at hr; cases hr), fun j hj => ?_⟩
  by_cases hji : j = i
  ·grind
  ·obtain ⟨hjun, oj', hoj', hall⟩ := mem_ready.1 hj
   have hoj : ops[j]? = some oj' := by simpa using hoj'
   rcases hfree j oj' hoj hji hjun with hre|⟨hsw, hap⟩
   ·grind [absurd, zO0, qaa9, mem_ready]
   ·obtain ⟨oj, hoj2, rj, Hj, hsj, hAj⟩ := hA.2 j (ready_mono hj hji)
    rw [hoj] at hoj2; injection hoj2 with hoj2; subst hoj2
    obtain ⟨a1, a2, a3⟩ := Oper.apart_spec hap
    obtain ⟨⟨s1, s2⟩, s3, s4, s5, s6, s7⟩ := hs
    obtain ⟨⟨t1, t2⟩, t3, t4, t5, t6, t7⟩ := hsj
    have noE : ∀ {o : Oper} {C : Prop}, effD q o.op = false → mFlag q o = true → C := fun {o} {C} e f => by rw [(zU0 f).1] at e; cases e
    have noH : ∀ {o : Oper} {C : Prop}, zy0 o.op = true → mFlag q o = true → C := fun {o} {C} e f => by rw [(zU0 f).2.2.2.1] at e; cases e
    have cgj : ∀ {Hx Hy : List Blk} {b : Nat}, MkAt P oj'.op (ev G (putA a oi.dst r)) Hx b rj Hy → MkAt P oj'.op (ev G a) Hx b rj Hy := fun h => kZ0 (fun x hx => qbp9 a1 hx) h
    have cgi : ∀ {Hx Hy : List Blk} {b : Nat}, MkAt P oi.op (ev G a) Hx b r Hy → MkAt P oi.op (ev G (putA a oj'.dst rj)) Hx b r Hy := fun h => kZ0 (fun x hx => (qbp9 a3 hx).symm) h
    have hid : ∀ H : List Blk, qbA9 N H H := fun H b B _ h => h
    have key : ∃ Hm, xaV9 P G q ops rs es N oj' a H rj Hm ∧ xaV9 P G q ops rs es N oi (putA a oj'.dst rj) Hm r Hj := by
     rcases hsw with hsw|⟨hfr, hfe⟩|⟨hm1, hm2⟩|⟨hbe, hbr⟩|hci|hcj
     ·simp only [zbd9, Bool.or_eq_true, Bool.and_eq_true, Bool.not_eq_true'] at hsw
      rcases hsw with (⟨p1, p2⟩|hp)|hp
      ·have e1 : H' = H := s2 p1
       subst e1
       have e2 : Hj = H' := t2 p2
       subst e2
       exact ⟨Hj, ⟨⟨(va0 a1).1 t1, fun _ => rfl⟩, fun h H2 k => (va0 a1).1 (t3 h H2 k), fun _ => hid _, noE p2, fun _ => hid _, fun h H2 => (va0 a1).1 (t7 h H2)⟩, ⟨⟨(va0 a3).2 s1, fun _ => rfl⟩, fun h H2 k => (va0 a3).2 (s3 h H2 k), fun _ => hid _, noE p1, fun _ => hid _, fun h H2 => (va0 a3).2 (s7 h H2)⟩⟩
      ·obtain ⟨e1, qq⟩ := xr0 hp s1
       subst e1
       exact ⟨Hj, ⟨⟨(va0 a1).1 t1, t2⟩, fun h H2 k => (va0 a1).1 (t3 h H2 k), t4, fun h => (t5 h).imp fun _ w => cgj w, t6, fun h H2 => (va0 a1).1 (t7 h H2)⟩, ⟨⟨(va0 a3).2 (qq Hj), fun _ => rfl⟩, fun h H2 k => (va0 a3).2 (qq H2), fun _ => hid _, noH hp, fun _ => hid _, fun h H2 => (va0 a3).2 (s7 h H2)⟩⟩
      ·obtain ⟨e1, qq⟩ := xr0 hp t1
       subst e1
       exact ⟨H, ⟨⟨(va0 a1).1 (qq H), fun _ => rfl⟩, fun h H2 k => (va0 a1).1 (qq H2), fun _ => hid _, noH hp, fun _ => hid _, fun h H2 => (va0 a1).1 (t7 h H2)⟩, ⟨⟨(va0 a3).2 s1, s2⟩, fun h H2 k => (va0 a3).2 (s3 h H2 k), s4, fun h => (s5 h).imp fun _ w => cgi w, s6, fun h H2 => (va0 a3).2 (s7 h H2)⟩⟩
     ·obtain ⟨d, x, f1, f2, f3, f4⟩ := wI0 hfr
      have e1 : H' = H := s2 (xU0 f3)
      subst e1
      have hk := t4 hfe
      exact ⟨Hj, ⟨⟨(va0 a1).1 t1, t2⟩, fun h H2 k => (va0 a1).1 (t3 h H2 k), t4, fun h => (t5 h).imp fun _ w => cgj w, t6, fun h H2 => (va0 a1).1 (t7 h H2)⟩, ⟨⟨(va0 a3).2 (s3 hfr Hj hk), fun _ => rfl⟩, fun h H2 k => (va0 a3).2 (s3 hfr H2 fun b B hb hB => k b B hb (hk b B hb hB)), fun _ => hid _, noE (xU0 f3), fun _ => hid _, fun h H2 => (va0 a3).2 (s7 h H2)⟩⟩
     ·obtain ⟨b1, w1⟩ := s5 hm1
      obtain ⟨b2, w2⟩ := t5 hm2
      obtain ⟨Hm, z2, z1⟩ := qbI9 w1 (cgj w2)
      have z1' := cgi z1
      obtain ⟨i1, i2, i3, i4, i5⟩ := zU0 hm1
      obtain ⟨j1, j2, j3, j4, j5⟩ := zU0 hm2
      have st1 : ∀ {o : Oper} {ax : List AV} {Hx Hy : List Blk} {b : Nat} {rx : AV}, isMk o.op = true → o.guard = none → MkAt P o.op (ev G ax) Hx b rx Hy → wi0 P G ops o ax Hx rx Hy := fun e1 e2 w => by
       unfold wi0; rw [e2]; exact .mkat e1 _ _ _ w
      have noB : ∀ {o : Oper} {C : Prop}, isMk o.op = true → zbg9 es o = true → C := fun e f => by
       simp only [zbg9, kbo9 e, Bool.and_false, Bool.false_and] at f
       cases f
      have noR : ∀ {o : Oper} {C : Prop}, rdOp o.op = none → xah9 rs o = true → C := fun e f => by
       grind [wI0]
      refine ⟨Hm, ⟨⟨st1 j2 j3 z2, fun e => (by rw [j1] at e; cases e)⟩, noR j5, fun h => xab9 z2 (kbR9 w2 (t4 h)), fun _ => ⟨b2, z2⟩, noB j2, fun h H2 => (va0 a1).1 (t7 h H2)⟩, ⟨⟨st1 i2 i3 z1', fun e => (by rw [i1] at e; cases e)⟩, noR i5, fun h => xab9 z1' (kbR9 w1 (s4 h)), fun _ => ⟨b1, z1'⟩, noB i2, fun h H2 => (va0 a3).2 (s7 h H2)⟩⟩
     ·obtain ⟨d, x, f1, f2, f3, f4⟩ := wI0 hbr
      have e2 : Hj = H' := t2 (xU0 f3)
      subst e2
      have hk := s6 hbe
      exact ⟨H, ⟨⟨(va0 a1).1 (t3 hbr H hk), fun _ => rfl⟩, fun h H2 k => (va0 a1).1 (t3 h H2 fun b B hb hB => k b B hb (hk b B hb hB)), fun _ => hid _, noE (xU0 f3), fun _ => hid _, fun h H2 => (va0 a1).1 (t7 h H2)⟩, ⟨⟨(va0 a3).2 s1, s2⟩, fun h H2 k => (va0 a3).2 (s3 h H2 k), s4, fun h => (s5 h).imp fun _ w => cgi w, s6, fun h H2 => (va0 a3).2 (s7 h H2)⟩⟩
     ·obtain ⟨c1, c2, c3, c4⟩ := wab9 hci
      have e1 : H' = H := s2 c4
      subst e1
      exact ⟨Hj, ⟨⟨(va0 a1).1 t1, t2⟩, fun h H2 k => (va0 a1).1 (t3 h H2 k), t4, fun h => (t5 h).imp fun _ w => cgj w, t6, fun h H2 => (va0 a1).1 (t7 h H2)⟩, ⟨⟨(va0 a3).2 (s7 hci Hj), fun _ => rfl⟩, fun h H2 k => (va0 a3).2 (s7 hci H2), fun _ => hid _, noE c4, fun _ => hid _, fun h H2 => (va0 a3).2 (s7 h H2)⟩⟩
     ·obtain ⟨c1, c2, c3, c4⟩ := wab9 hcj
      have e2 : Hj = H' := t2 c4
      subst e2
      exact ⟨H, ⟨⟨(va0 a1).1 (t7 hcj H), fun _ => rfl⟩, fun h H2 k => (va0 a1).1 (t7 hcj H2), fun _ => hid _, noE c4, fun _ => hid _, fun h H2 => (va0 a1).1 (t7 h H2)⟩, ⟨⟨(va0 a3).2 s1, s2⟩, fun h H2 k => (va0 a3).2 (s3 h H2 k), s4, fun h => (s5 h).imp fun _ w => cgi w, s6, fun h H2 => (va0 a3).2 (s7 h H2)⟩⟩
    obtain ⟨Hm, hsj', hsi'⟩ := key
    refine ⟨oj', hoj, rj, Hm, hsj', ?_⟩
    refine ih (listed.setIfInBounds j true) _ _ _ (qq0 hc hj) (fun k ok hk hki hun => ?_) (ready_mono hr (Ne.symm hji)) hsi' ?_
    ·refine hfree k ok hk hki ?_
     by_cases hjk : j = k
     ·subst hjk; exact hjun
     ·rw [getD_set_ne true hjk] at hun; exact hun
    grind [Array.setIfInBounds_comm, kan9]
def lexN (q : Operand → Bool) (rs : List (Nat × Nat)) (es : List (Nat × Option Nat)) (md : Region.Mode) (ops : Array Oper) (T : Nat) : Nat → Nat → Array Bool → Bool
 | 0, _, listed => (Region.ready md ops listed).isEmpty
 | n + 1, k, listed => decide (k < 256) && (Region.ready md ops listed).contains k &&
   ((List.range ops.size).all fun j => j == k || listed.getD j true || T.testBit (j * 256 + k) ||
    (match ops[k]?, ops[j]? with|some ok, some oj => (zbd9 q ok.op oj.op || (xah9 rs ok && (qU0 es oj || eFlagM es oj)) || (mFlag q ok && mFlag q oj) || (zbg9 es ok && xah9 rs oj) || wbg9 q ok || wbg9 q oj) && ok.apart ops oj|_, _ => false)) &&
   lexN q rs es md ops T n (k + 1) (listed.setIfInBounds k true)
def waj9 (q : Operand → Bool) (rs : List (Nat × Nat)) (es : List (Nat × Option Nat)) (ops : List Oper) : Bool :=
 match ancT .any ops 0 0 with
 | 0 => lexN q rs es .any ops.toArray 0 ops.length 0 (Array.replicate ops.length false)
 | n + 1 => lexN q rs es .any ops.toArray (n + 1) ops.length 0 (Array.replicate ops.length false)
theorem waV9 (h : waj9 q rs es ops = true) : ∃ T, xF0 .any ops T ∧ lexN q rs es .any ops.toArray T ops.length 0 (Array.replicate ops.length false) = true := by
 grind [xF0, ancT, xao9, waj9]
def xbS9 (P : Program) (G : Glob) (q : Operand → Bool) (ops : List Oper) (rs : List (Nat × Nat)) (es : List (Nat × Option Nat)) (N : Nat → Prop) (K : List AV → List Blk → Prop) : List Oper → List AV → List Blk → Prop
 | [], a, H => K a H
 | o :: rest, a, H => ∃ r H', xaV9 P G q ops rs es N o a H r H' ∧ xbS9 P G q ops rs es N K rest (putA a o.dst r) H'
theorem xaB9 {T : Nat} (hT : xF0 md ops T) : ∀ (l : List Oper) (k : Nat) (listed : Array Bool) (a : List AV) (H : List Blk), (∀ j, l[j]? = ops[k + j]?) → lexN q rs es md ops.toArray T l.length k listed = true → xD0 md ops listed →
  xbS9 P G q ops rs es N K l a H → zbS9 P G q ops rs es N md K l.length listed a H
 | [], k, listed, a, H, _, hB, _, h => ⟨by simpa [lexN] using hB, h⟩
 | o :: l, k, listed, a, H, hl, hB, hc, h => by
  have h0 : ops[k]? = some o := by simpa using (hl 0).symm
  simp only [List.length_cons, lexN, Bool.and_eq_true, List.all_eq_true, List.mem_range, decide_eq_true_eq] at hB
  obtain ⟨⟨⟨h256, hr⟩, hf⟩, hB'⟩ := hB
  have hr' : k ∈ Region.ready md ops.toArray listed := by simpa using hr
  obtain ⟨r, H', hs, hK⟩ := h
  refine vbg9 hT h256 h0 l.length listed a H H' hc (fun j oj hj hji hun => ?_) hr' hs ?_
  ·grind
  ·exact xaB9 hT l (k + 1) _ _ _ (fun j => by have := hl (j + 1); grind) hB' (qq0 hc hr') hK
def waB9 (rs : List (Nat × Nat)) (es : List (Nat × Option Nat)) : List Oper → Bool
 | [] => true
 | o :: l => (!xah9 rs o || (match rdOp o.op with|some x => (o :: l).all fun o' => o'.dst != some x|none => false)) &&
   (!qU0 es o || (match kT0 o.op with|some (some y) => (o :: l).all fun o' => o'.dst != some y|some none => true|none => false)) && (!eFlagM es o || (match o.dst with|some d => l.all fun o' => o'.dst != some d|none => false)) && (!zbg9 es o || (match o.dst with|some d => l.all fun o' => o'.dst != some d|none => false)) && waB9 rs es l
def kcp9 (rs : List (Nat × Nat)) (es : List (Nat × Option Nat)) (a : List AV) : Prop := ∀ x ∈ rs, ∀ y ∈ es, ∀ t, y.2 = some t → apB (getA a x.2) (getA a t) = true
theorem xaK9 {a : List AV} {d : Option Tmp} {r : AV} {t : Nat} (h : d ≠ some t) : getA (putA a d r) t = getA a t := by
 cases d with
 | none => rfl
 | some d =>
  grind [getA, putA]
theorem qcq9 (a : List AV) (d : Option Tmp) (r : AV) : (putA a d r).length = a.length := by cases d <;> simp [putA]
theorem zbp9 : ∀ (l : List Oper) (a : List AV) (H : List Blk), waB9 rs es l = true → (l.all fun o => !(qU0 es o && isVC o.op) || kpF q) = true → (l.all fun o => !((qU0 es o && isMk o.op && atF q) || (eFlagM es o && !mFlag q o))) = true → (∀ y ∈ es, y.1 < a.length) → ChainK P G q ops (fun a H => K a H ∧ kcp9 rs es a) l a H →
  ∃ af, kcp9 rs es af ∧ (∀ t, (l.all fun o => o.dst != some t) = true → getA af t = getA a t) ∧ xbS9 P G q ops rs es (fun b => ∃ x ∈ rs, topB (getA af x.2).strip = some b) K l a H
 | [], a, H, _, _, _, _, h => ⟨a, h.2, fun _ _ => rfl, h.1⟩
 | o :: l, a, H, hl, hv, hx0, hlen, h => by
  obtain ⟨r, H', ⟨hs, hkk, hmm, hmn, hpp⟩, hc⟩ := h
  simp only [waB9, Bool.and_eq_true] at hl
  obtain ⟨⟨⟨⟨hl1, hl2⟩, hlm⟩, hlb⟩, hl3⟩ := hl
  rw [List.all_cons, Bool.and_eq_true] at hv hx0
  obtain ⟨af, hf, hu, hN⟩ := zbp9 l _ _ hl3 hv.2 hx0.2 (fun y hy => by rw [qcq9]; exact hlen y hy) hc
  have hu' : ∀ t, ((o :: l).all fun o => o.dst != some t) = true → getA af t = getA a t := fun t ht => by
   simp_all [List.all_cons, Bool.and_eq_true, bne_iff_ne, xaK9]
  refine ⟨af, hf, hu', r, H', ⟨hs, fun hfl => ?_, fun hfl => ?_, hmm, fun hfl => ?_, fun hfl => (by grind [wab9])⟩, hN⟩
  ·obtain ⟨d, x, f1, f2, f3, f4⟩ := wI0 hfl
   rw [hfl, f3] at hl1
   simp only [Bool.not_true, Bool.false_or] at hl1
   have hx := hu' x hl1
   intro H2 hk
   have h1 := hs.1
   unfold wi0 at h1 ⊢
   rw [f2] at h1 ⊢
   simp only at h1 ⊢
   cases h1 with
   | pure h1 =>
    have e := wbA9 (H2 := H2) f3 h1 (fun b B hb hB => hk b B ⟨(d, x), f4, by rw [hx]; exact hb⟩ hB)
    rw [← e] at h1 ⊢
    exact .pure h1
   | eff he h1 => rw [vcp9 f3] at he; cases he
   | made he r h1 => rw [qbS9 f3] at he; cases he
   | mkat he b r H' h1 => rw [qbS9 f3] at he; cases he
   | call c f g cap ho => grind [zaV9]
   | yield c f b ho => grind [zaV9]
  ·have hx1 := hx0.1
   by_cases hfM : eFlagM es o = true
   ·obtain ⟨d, g1, g2, g3, g4⟩ := xbg9 hfM
    have hmF : mFlag q o = true := by
     grind
    obtain ⟨b0, hb0⟩ := hmm hmF
    refine xab9 hb0 ?_
    rintro ⟨x, hx, hxb⟩
    rw [hfM, g3] at hlm
    simp only [Bool.not_true, Bool.false_or] at hlm
    have hlt : d < a.length := hlen _ g4
    have hra := hu d hlm
    have := hf x hx _ g4 d rfl
    grind [apB, getA, putA, wcp9]
   have hfl : qU0 es o = true := by
    grind
   obtain ⟨y, f1, f2, f3⟩ := qaB9 hfl
   rw [hfl, f1] at hl2
   intro b B hb hB
   by_cases hmk : isMk o.op = true
   ·have hat : atF q = false := by
     grind
    obtain ⟨E, rfl⟩ := hmn hat hmk f2
    grind
   obtain ⟨x, hx, hxb⟩ := hb
   have h1 := hs.1
   unfold wi0 at h1
   rw [f2] at h1
   simp only at h1
   cases h1 with
   | pure h1 => exact hB
   | made he r h1 => exact hB
   | mkat he b' r H' h1 => exact absurd he hmk
   | eff he h1 =>
    refine qbB9 f1 h1 (fun t ht hbt => ?_) hB
    subst ht
    simp only [Bool.not_true, Bool.false_or] at hl2
    have hy := hu' t hl2
    have := hf x hx _ f3 t rfl
    unfold apB at this
    rw [hxb, hy] at this
    have hbt : topB (getA a t).strip = some b := hbt
    grind
   | call c f g cap ho hcal =>
    have hvc : isVC o.op = true := by rw [ho]; obtain ⟨c1, c2, c3⟩ := c; simp only at hcal; subst hcal; rfl
    have hv1 := hv.1
    rw [hfl, hvc] at hv1
    obtain ⟨E, rfl⟩ := hkk (by simpa using hv1) f2 hvc
    grind
   | yield c f b' ho hcal =>
    have hvc : isVC o.op = true := by rw [ho]; obtain ⟨c1, c2, c3⟩ := c; simp only at hcal; subst hcal; rfl
    have hv1 := hv.1
    rw [hfl, hvc] at hv1
    obtain ⟨E, rfl⟩ := hkk (by simpa using hv1) f2 hvc
    grind
  ·rw [hfl] at hlb
   simp only [zbg9, Bool.and_eq_true] at hfl
   obtain ⟨⟨hfe, hap⟩, hd⟩ := hfl
   obtain ⟨y, f1, f2, f3⟩ := qaB9 hfe
   rw [hfe, f1] at hl2
   cases hdo : o.dst with
   | none => rw [hdo] at hd; cases hd
   | some d =>
    rw [hdo] at hd hlb
    simp only [Bool.not_true, Bool.false_or] at hlb
    have hkd : xcp9 o = d := by unfold xcp9; rw [hdo]
    rw [hkd] at f3
    have hlt : d < a.length := hlen _ f3
    rw [List.any_eq_true] at hd
    obtain ⟨y2, hy2, hy3⟩ := hd
    have hy3 : y2.2 = some d := by simpa using hy3
    have hra := hu d hlb
    rw [hdo] at hra
    have e : getA (putA a (some d) r) d = r := by simp [getA, putA, hlt]
    rw [e] at hra
    rintro b B ⟨x, hx, hxb⟩ hB
    have h1 := hs.1
    unfold wi0 at h1
    rw [f2] at h1
    simp only at h1
    have c2 := hf x hx y2 hy2 d hy3
    unfold apB at c2
    rw [hxb, hra] at c2
    obtain ⟨t, rfl⟩ := vbR9 hap f1
    simp only [Bool.not_true, Bool.false_or] at hl2
    have hy := hu' t hl2
    have c1 := hf x hx _ f3 t rfl
    unfold apB at c1
    rw [hxb, hy] at c1
    have hEA : wu0 o.op = true := by
     cases w : wu0 o.op with
     | true => rfl
     | false =>
      exfalso
      generalize o.op = oo at hap w
      unfold zab9 at hap
      grind [wu0, w]
    cases h1 with
    | pure h1 => exact hB
    | made he r h1 => exact hB
    | mkat he b' r H' h1 => rw [kbo9 he] at hap; cases hap
    | eff he h1 =>
     refine zbB9 hap f1 h1 (fun q => ?_) (fun q => ?_) hB
     ·have q : topB (getA a t).strip = some b := q
      rw [q] at c1; simp at c1
     ·rw [q] at c2; simp at c2
    | call c f g cap ho hcal => rw [ho] at hap; obtain ⟨c1, c2, c3⟩ := c; grind [zab9]
    | yield c f b' ho hcal => rw [ho] at hap; obtain ⟨c1, c2, c3⟩ := c; grind [zab9]
end
variable {ρ : Bool} {n0 : Nat} {Q : Post} {a : List AV} {H : List Blk}
theorem wbS9 {id : Nat} {ops : List Oper} {dr : Operand → Bool} (rs : List (Nat × Nat)) (es : List (Nat × Option Nat)) (dl : List (Nat × Nat)) (hm : P.follows .mixedOrders = true) (ho : waj9 dr rs es (delays dl ops) = true) (hl : waB9 rs es (delays dl ops) = true)
  (hv : ((delays dl ops).all fun o => !(qU0 es o && isVC o.op) || kpF dr) = true) (hx : ((delays dl ops).all fun o => !((qU0 es o && isMk o.op && atF dr) || (eFlagM es o && !mFlag dr o))) = true) (hlen : ∀ y ∈ es, y.1 < a.length) (hckA : delayOkA P dl ops = true) (hckB : delayOkB dl ops = true) (hckC : delayOkC dl ops = true) (h : ChainK P G dr ops (fun a H => Q .normal a H ∧ kcp9 rs es a) ops a H) : AWp ρ P G n0 (.region id ops.toArray true) Q a H := fun ro S act hr0 h1 h2 h3 h4 => by
 refine wpIn_region_any hm ?_
 obtain ⟨T, hT, hlex⟩ := waV9 ho
 have hcl : ∀ ops : List Oper, xD0 .any ops (Array.replicate ops.length false) := fun ops k o _ hk => by
  exfalso
  rw [Array.getD_eq_getD_getElem?] at hk
  grind
 have hch := wT0 dl ops 0 a H h
 obtain ⟨af, _, _, hN⟩ := zbp9 (delays dl ops) a H hl hv hx hlen hch
 have hA := zaB9 _ _ _ _ (xaB9 (md := .any) hT (delays dl ops) 0 (Array.replicate (delays dl ops).length false) a H (fun j => by simp) hlex (hcl _) hN)
 let S1 : St := S.with (S.w.drewN 1)
 have hok1 : S1.Ok H := ⟨h1.imm, h1.row, h1.ob, h1.inj⟩
 have hext : Ext n0 S H S1 H := ⟨rfl, rfl, rfl, Nat.le_refl _, fun _ _ _ => rfl, fun _ _ q => q, fun _ q => .inl q, fun _ q => .inl q, fun _ _ _ _ q => ⟨_, Nat.le_refl _, q, fun _ => rfl⟩, fun _ _ _ q => q, fun q => q⟩
 have e : ops.toArray.size = ops.length := by simp
 rw [e]
 rw [zC0] at hA
 refine zcp9 (ro := ro) (Q := fun e => Ends G n0 S H act.defers (Q e)) (dl := dl) hckA hckB hckC (fun act w q => q) ops.length [] _ _ a H S1 act hA ⟨hok1, h2, by assumption, hext, h4, Marks.refl _ _ _ _, ⟨by simp, by simp, fun j hj => by simp⟩, hcl _, fun p hp => (by cases hp), .nil⟩ ?_
 rw [List.countP_eq_length.2 fun j hj => by simp_all, List.length_range]
end
end Go.V
set_option linter.unusedVariables false
set_option linter.unusedSimpArgs false
set_option autoImplicit false
namespace Go.V
open Go Go.RowKit
def waf9 : List (Nat × Option Nat) → AV → (Nat → AV) → Bool
 | [], _, _ => true
 | (_, some t) :: es, v, s => apB v (s t) && waf9 es v s
 | (_, none) :: es, v, s => waf9 es v s
def kbg9 : List (Nat × Nat) → List (Nat × Option Nat) → (Nat → AV) → Bool
 | [], _, _ => true
 | (_, x) :: rs, es, s => waf9 es (s x) s && kbg9 rs es s
theorem zP0 {v : AV} {s : Nat → AV} : ∀ {es : List (Nat × Option Nat)}, waf9 es v s = true → ∀ y ∈ es, ∀ t, y.2 = some t → apB v (s t) = true
 | [], _, y, hy, _, _ => by cases hy
 | (k, some t0) :: es, h, y, hy, t, ht => by
  simp only [waf9, Bool.and_eq_true] at h
  rcases List.mem_cons.1 hy with rfl|hy
  ·injection ht with ht; subst ht; exact h.1
  ·exact zP0 h.2 y hy t ht
 | (k, none) :: es, h, y, hy, t, ht => by
  simp only [waf9] at h
  rcases List.mem_cons.1 hy with rfl|hy
  ·cases ht
  ·exact zP0 h y hy t ht
theorem vaB9 {es : List (Nat × Option Nat)} {s : Nat → AV} : ∀ {rs : List (Nat × Nat)}, kbg9 rs es s = true → ∀ x ∈ rs, waf9 es (s x.2) s = true
 | [], _, x, hx => by cases hx
 | (d, x0) :: rs, h, x, hx => by
  simp only [kbg9, Bool.and_eq_true] at h
  rcases List.mem_cons.1 hx with rfl|hx
  ·exact h.1
  ·exact vaB9 h.2 x hx
def qdi9 (rs : List (Nat × Nat)) (es : List (Nat × Option Nat)) (Q : ke0) : ke0 := fun e s H => Q e s H ∧ kbg9 rs es s = true
theorem zcq9 {rs : List (Nat × Nat)} {es : List (Nat × Option Nat)} {n : Nat} {s : Nat → AV} (h : kbg9 rs es s = true) : kcp9 rs es (Lst n s) := fun x hx y hy t ht => by
 have h1 := zP0 (vaB9 h x hx) y hy t ht
 rw [xaj9, xaj9]
 split
 ·split
  ·exact h1
  ·unfold apB; cases topB (s x.2).strip <;> simp [AV.strip, topB]
 ·unfold apB; simp [AV.strip, topB]
section
variable {ρ : Bool} {P : Program} {G : Glob} {n0 n : Nat} {body : Code} {p : List Nat} {Q : ke0} {B : Prop} {s : Nat → AV} {H : List Blk} {dr : Operand → Bool}
def vbS9 (P : Program) (dr : Operand → Bool) (rs : List (Nat × Nat)) (es : List (Nat × Option Nat)) (dl : List (Nat × Nat)) (ops : List Oper) : Bool :=
 waj9 dr rs es (delays dl ops) && waB9 rs es (delays dl ops) && ((delays dl ops).all fun o => !(qU0 es o && isVC o.op) || kpF dr) && ((delays dl ops).all fun o => !((qU0 es o && isMk o.op && atF dr) || (eFlagM es o && !mFlag dr o))) && delayOkA P dl ops && delayOkB dl ops && delayOkC dl ops
theorem qar9 {P : Program} {G : Glob} {q : Operand → Bool} {ops : List Oper} {K K' : List AV → List Blk → Prop} (hk : ∀ a H, K a H → K' a H) : ∀ (l : List Oper) (a : List AV) (H : List Blk), ChainK P G q ops K l a H → ChainK P G q ops K' l a H
 | [], a, H, h => hk a H h
 | o :: l, a, H, ⟨r, H', hs, h⟩ => ⟨r, H', hs, qar9 hk l _ _ h⟩
theorem wb0 (rs : List (Nat × Nat)) (es : List (Nat × Option Nat)) (dl : List (Nat × Nat)) (hs : xm0 (atR body p) = true) (hd : wD0 (atR body p) = true) (hm : P.follows .mixedOrders = true) (ho : vbS9 P dr rs es dl (qd0 (atR body p)) = true) (h : Acc ρ P G n0 n dr body p (qdi9 rs es Q) 0 B s H) (hown : ownF dr = false := by rfl) (hlen : (es.all fun y => decide (y.1 < n)) = true := by rfl) : Go ρ P G n0 n body p Q B s H := by
 refine ⟨h.1, ?_⟩
 have h2 := h.2
 unfold At
 generalize atR body p = c at hs h2 hd ho
 cases c with
 | region id ops d =>
  cases hd
  simp only [qd0, List.drop_zero] at h2 ho
  simp only [vbS9, Bool.and_eq_true] at ho
  refine wbS9 (ops := ops.toList) rs es dl hm ho.1.1.1.1.1.1 ho.1.1.1.1.1.2 ho.1.1.1.1.2 ho.1.1.1.2 (fun y hy => by rw [vn0]; simpa using List.all_eq_true.1 hlen y hy) ho.1.1.2 ho.1.2 ho.2 (qar9 (fun a H q => ?_) _ _ _ (wO0 hown _ _ _ h2))
  obtain ⟨s', rfl, q1, q2⟩ := q
  exact ⟨⟨s', rfl, q1⟩, zcq9 q2⟩
 | _ => cases hs
theorem xcq9 {rs : List (Nat × Nat)} {es : List (Nat × Option Nat)} (h : Out Q .normal (B ∧ kbg9 rs es s = true) s H) : Out (qdi9 rs es Q) .normal B s H := ⟨h.1.1, h.2, h.1.2⟩
end
attribute [push_cast] kbg9 waf9 apB topB
end Go.V
set_option linter.unusedVariables false
set_option linter.unusedSimpArgs false
set_option autoImplicit false
namespace Go.V
open Go Go.RowKit
def qe0 (s k : Nat) : Blk := .row s 0 (List.replicate (k + 1) [])
def St.dead (S : St) (b : Nat) : St := { S with μ := upd S.μ b none }
theorem waK9 {b sz : Nat} {t : TypeId} {S : St} {H : List Blk} {es : List (List AV)} (hb : H[b]? = some (.row sz t es)) (hok : S.Ok H) :
  (S.dead b).Ok (H.set b (qe0 sz es.length)) ∧ (S.env H).le ((S.dead b).env (H.set b (qe0 sz es.length))) ∧ (∀ x g, (S.dead b).at (H.set b (qe0 sz es.length)) x = some g → x ≠ b ∧ S.at H x = some g) ∧ (∀ x g, x ≠ b → S.at H x = some g → (S.dead b).at (H.set b (qe0 sz es.length)) x = some g) ∧
  ∀ n0, Ext n0 S H (S.dead b) (H.set b (qe0 sz es.length)) := by
 have hlt := (List.getElem?_eq_some_iff.1 hb).1
 have hself : (H.set b (qe0 sz es.length))[b]? = some (qe0 sz es.length) := List.getElem?_set_self hlt
 have hne : ∀ x, x ≠ b → (H.set b (qe0 sz es.length))[x]? = H[x]? := fun x e => List.getElem?_set_ne (Ne.symm e)
 have hat : ∀ x, x ≠ b → (S.dead b).at (H.set b (qe0 sz es.length)) x = S.at H x := fun x e => by
  simp only [St.at, St.dead, hne x e, xd0 _ _ e]
 have hatb : ∀ x g, (S.dead b).at (H.set b (qe0 sz es.length)) x = some g → x ≠ b := fun x g hx e => by
  subst e
  unfold St.at at hx
  rw [hself] at hx
  simp [qe0, St.dead, xc0] at hx
 have hsh : ∀ x, x ≠ b → shOf (H.set b (qe0 sz es.length)) x = shOf H x := fun x e => by simp only [shOf, hne x e]
 have hshb : shOf (H.set b (qe0 sz es.length)) b = some (sz, es.length + 1) := by simp only [shOf, hself]; simp [qe0]
 have hshb0 : shOf H b = some (sz, es.length) := by simp [shOf, hb]
 have hmp : ∀ x, mpOf S.ν (H.set b (qe0 sz es.length)) x = mpOf S.ν H x := fun x => by
  by_cases e : x = b
  ·subst e; simp only [mpOf, hself, hb]; rfl
  ·simp only [mpOf, hne x e]
 have hle : (S.env H).le ((S.dead b).env (H.set b (qe0 sz es.length))) := by
  refine ⟨fun _ _ h => h, fun x s1 cur h => ?_, fun x g h => ?_⟩
  ·by_cases e : x = b
   ·subst e
    have h : shOf H x = some (s1, cur) := h
    rw [hshb0] at h
    injection h with h; injection h with h1 h2; subst h1; subst h2
    exact ⟨es.length + 1, Nat.le_succ _, hshb, fun q => absurd q (Nat.succ_ne_self _)⟩
   ·exact ⟨cur, Nat.le_refl _, (hsh x e).trans h, fun _ => xd0 _ _ e⟩
  ·exact (hmp x).trans h
 refine ⟨⟨hok.imm, fun x s' t' es2 hx => ?_, fun x o hx => ?_, fun x y g hx hy => ?_⟩, hle, fun x g hx => ⟨hatb x g hx, by rw [← hat x (hatb x g hx)]; exact hx⟩, fun x g e hx => (hat x e).trans hx, fun n0 => ⟨rfl, rfl, rfl, Nat.le_refl _, fun _ _ _ => rfl, fun _ _ h => h, fun _ h => .inl h, fun k h => ?_, fun x s1 cur _ hs => ?_, fun x g _ hg => (hmp x).trans hg, fun h => by simpa using h⟩⟩
 ·by_cases e : x = b
  ·subst e
   rw [hself] at hx
   injection hx with hx; injection hx with h1 h2 h3
   exact .inl ⟨xc0 _ _ _, .inr h2.symm⟩
  ·rw [hne x e] at hx
   rcases hok.row x s' t' es2 hx with q|⟨g, k, cs, h1, h2, h3, h4, h5, h6, h7⟩
   ·exact .inl ⟨(xd0 _ _ e).trans q.1, q.2⟩
   ·exact .inr ⟨g, k, cs, (xd0 _ _ e).trans h1, h2, h3, h4, h5, h6, h7.mono hle⟩
 ·have e : x ≠ b := by
   rintro rfl
   rw [hself] at hx; cases hx
  rw [hne x e] at hx
  obtain ⟨g, ob1, h1, h2, h3, h4⟩ := hok.ob x o hx
  exact ⟨g, ob1, h1, h2, h3, h4.mono hle⟩
 ·have q1 := hatb x g hx
  have q2 := hatb y g hy
  rw [hat x q1] at hx; rw [hat y q2] at hy
  exact hok.inj x y g hx hy
 ·obtain ⟨x, hx⟩ := h
  have q1 := hatb x k hx
  rw [hat x q1] at hx
  exact .inl ⟨x, hx⟩
 ·by_cases e : x = b
  ·subst e
   rw [hshb0] at hs
   injection hs with hs; injection hs with h1 h2; subst h1; subst h2
   exact ⟨es.length + 1, Nat.le_succ _, hshb, fun q => absurd q (Nat.succ_ne_self _)⟩
  ·exact ⟨cur, Nat.le_refl _, (hsh x e).trans hs, fun _ => xd0 _ _ e⟩
theorem vdq9 (x y : AV) : AV.ite false x y = y := by
 unfold AV.ite; split <;> rfl
theorem kdq9 (x y : AV) : AV.ite true x y = x := by
 unfold AV.ite; split <;> rfl
attribute [push_cast] vdq9 kdq9
end Go.V
set_option linter.unusedVariables false
set_option linter.unusedSimpArgs false
set_option autoImplicit false
namespace Go.V
open Go Go.RowKit
def renA (K : List Blk) (d j m : Nat) : AV → AV
 | .own b n h c => if b = j then .own m n h c else qu0 K d (.own b n h c)
 | v => qu0 K d v
def qbh9 (K : List Blk) (d j : Nat) : AV → Bool
 | .own b n h c => b == j || okA K d (.own b n h c)
 | v => okA K d v
def renR (K : List Blk) (d j m : Nat) : AV → AV
 | .tup vs => .tup (vs.map (renA K d j m))
 | v => renA K d j m v
def kaB9 (K : List Blk) (d j : Nat) : AV → Bool
 | .tup vs => vs.all (qbh9 K d j)
 | v => qbh9 K d j v
open Classical in
theorem kbS9 {P : Program} {G : Glob} {f : FuncId} {args : List AV} {r : AV} {K : List Blk} {s : Nat} {t : TypeId} {es es' : List (List AV)} {r' : AV} (d j : Nat) (H : List Blk) (h : ka0 P G f args [] r K) (hc : idsL kR0 args = true) (hj : K[j]? = some (.row s t es))
  (hes : (es.all fun e => e.all (okC (K.set j (qe0 s es.length)) d)) = true) (hes' : (es.map fun e => e.map (xf0 (K.set j (qe0 s es.length)) d)) = es') (hr : kaB9 (K.set j (qe0 s es.length)) d j r = true) (hr' : renR (K.set j (qe0 s es.length)) d j H.length r = r') :
  ka0 P G f args H r' (H ++ [.row s t es']) := fun S vals hok hG ha => by
 subst hes'
 let S0 : St := ⟨S.M, fun _ => none, fun _ => none, S.w⟩
 have hat0 : ∀ (T : St) b, T.at [] b = none := fun T b => by simp [St.at]
 have hok0 : S0.Ok [] := ⟨hok.imm, fun b s t es hb => by simp at hb, fun b ob0 hb => by simp at hb, fun b b' g hb => by rw [hat0] at hb; cases hb⟩
 have hargs : RelL (S0.env []) args vals := RelL.move (ks0 (E := S.env H) (E' := S0.env []) fun k o q => q) _ _ hc ha
 refine (h S0 vals hok0 hG hargs).mono fun e w' hh => ?_
 obtain ⟨v, S1, rfl, rfl, hok1, hext, hrel⟩ := hh
 have howns : ∀ (T : St) k, ¬ T.Owns [] k := fun T k ⟨b, hb⟩ => by rw [hat0] at hb; cases hb
 obtain ⟨hokD, hleD, hatD, hatD', hextD⟩ := waK9 hj hok1
 generalize hK0 : K.set j (qe0 s es.length) = K0 at *
 let F : St := (S1.dead j).freeze K0
 have hFok : F.Ok [] := vao9 hokD
 have hFM : ∀ k o, S1.M k = some o → F.M k = some o := fun k o hk => xS0 hokD hk
 have hMF : ∀ k, ¬ (S1.dead j).Owns K0 k → F.M k = S1.M k := fun k hk => by
  show (if (S1.dead j).Owns K0 k then _ else _) = _
  rw [if_neg hk]; rfl
 have hsz : S.w.heap.size ≤ S1.w.heap.size := hext.size
 have hown1 : ∀ k, (S1.dead j).Owns K0 k → S.w.heap.size ≤ k := fun k ⟨x, hx⟩ => by
  rcases hext.own k ⟨x, (hatD x k hx).2⟩ with q|q
  ·exact absurd q (howns _ _)
  ·exact q
 let S' : St := ⟨F.M, upd S.μ H.length (S1.μ j), S.ν, S1.w⟩
 have hsame : ∀ k, k < S.w.heap.size → S1.w.heap[k]? = S.w.heap[k]? := fun k hk => hext.keep k hk (howns _ _)
 have hMn : ∀ g, g < S.w.heap.size → S.M g = none → F.M g = none := fun g hg hn => by
  rw [hMF g fun q => by have := hown1 g q; omega]
  cases hM : S1.M g with
  | none => rfl
  | some o =>
   rcases hext.dom g (by rw [hM]; simp) with q|q|q
   ·exact absurd hn q
   ·exact absurd q (howns _ _)
   grind
 have hgetlt : ∀ b, b < H.length → ∀ B : Blk, (H ++ [B])[b]? = H[b]? := fun b hb B => List.getElem?_append_left hb
 have hgetn : ∀ B : Blk, (H ++ [B])[H.length]? = some B := fun B => by simp
 have hle : (S.env H).le (S'.env (H ++ [.row s t (es.map fun e => e.map (xf0 K0 d))])) := by
  refine ⟨fun k o hk => hFM k o (hext.M k o hk), fun b s1 cur hb => ⟨cur, Nat.le_refl _, ?_, fun _ => ?_⟩, fun b g hb => ?_⟩
  ·have hlt : b < H.length := by
    rcases Nat.lt_or_ge b H.length with q|q
    ·exact q
    ·have hb : shOf H b = some (s1, cur) := hb
     grind [shOf, List.getElem?_eq_none]
   show shOf _ b = _
   rw [shOf, hgetlt b hlt]; exact hb
  ·have hlt : b < H.length := by
    rcases Nat.lt_or_ge b H.length with q|q
    ·exact q
    ·have hb : shOf H b = some (s1, cur) := hb
     grind [shOf, List.getElem?_eq_none]
   exact xd0 _ _ (by omega)
  ·have hlt : b < H.length := by
    rcases Nat.lt_or_ge b H.length with q|q
    ·exact q
    ·have hb : mpOf S.ν H b = some g := hb
     grind [mpOf, List.getElem?_eq_none]
   show mpOf S.ν _ b = _
   rw [mpOf, hgetlt b hlt]; exact hb
 have hFle : (F.env []).le (S'.env (H ++ [.row s t (es.map fun e => e.map (xf0 K0 d))])) :=
  ⟨fun k o q => q, fun b s cur hb => by simp [St.env, shOf] at hb, fun b g hb => by simp [St.env, mpOf] at hb⟩
 have hjn : ∀ g k, S1.μ j = some (g, k) → F.M g = none ∧ S.w.heap.size ≤ g ∧ S1.M g = none := fun g k hg => by
  have hatj : S1.at K j = some g := by simp [St.at, hj, hg]
  have hno : ¬ (S1.dead j).Owns K0 g := fun ⟨x, hx⟩ => by
   obtain ⟨q1, q2⟩ := hatD x g hx
   exact q1 (hok1.inj x j g q2 hatj)
  obtain ⟨g0, k0, cs, q1, q2, _⟩ := (hok1.row j s t es hj).resolve_left (fun q => by rw [q.1] at hg; cases hg)
  rw [hg] at q1; injection q1 with q1; injection q1 with e1 e2; subst e1
  refine ⟨by rw [hMF g hno]; exact q2, ?_, q2⟩
  rcases hext.own g ⟨j, hatj⟩ with q|q
  ·exact absurd q (howns _ _)
  ·exact q
 have hok' : S'.Ok (H ++ [.row s t (es.map fun e => e.map (xf0 K0 d))]) := by
  refine ⟨hFok.imm, fun b s1 t1 es1 hb => ?_, fun b ob0 hb => ?_, fun b b' g hb hb' => ?_⟩
  ·rcases Nat.lt_trichotomy b H.length with q|q|q
   ·rw [hgetlt b q] at hb
    rcases hok.row b s1 t1 es1 hb with q1|⟨g, k, cs, h1, h2, h3, h4, h5, h6, h7⟩
    ·grind [xd0, trans]
    ·have hlt := (Array.getElem?_eq_some_iff.1 h3).1
     exact .inr ⟨g, k, cs, (xd0 _ _ (by omega)).trans h1, hMn g hlt h2, (hsame g hlt).trans h3, h4, h5, h6, h7.mono hle⟩
   ·subst q
    rw [hgetn] at hb
    injection hb with hb; injection hb with e1 e2 e3; subst e1; subst e2; subst e3
    rcases hok1.row j s t es hj with q1|⟨g, k, cs, h1, h2, h3, h4, h5, h6, h7⟩
    ·grind [xc0, trans, id]
    ·refine .inr ⟨g, k, cs, (xc0 _ _ _).trans h1, (hjn g k h1).1, h3, h4, by simpa using h5, h6, fun i e hi => ?_⟩
     rw [List.getElem?_map] at hi
     cases hei : es[i]? with
     | none => rw [hei] at hi; cases hi
     | some e0 =>
      rw [hei] at hi
      simp only [Option.map_some, Option.some.injEq] at hi
      subst hi
      obtain ⟨l1, l2⟩ := h7 i e0 hei
      refine ⟨by simpa using l1, fun q a hq => ?_⟩
      rw [List.getElem?_map] at hq
      cases hej : e0[q]? with
      | none => rw [hej] at hq; cases hq
      | some a0 =>
       rw [hej] at hq
       simp only [Option.map_some, Option.some.injEq] at hq
       subst hq
       obtain ⟨u, hu, ho, hru⟩ := l2 q a0 hej
       have hk := List.all_eq_true.1 (List.all_eq_true.1 hes e0 (List.mem_of_getElem? hei)) a0 (List.mem_of_getElem? hej)
       grind [Rel.mono, kz0]
   grind
  ·rcases Nat.lt_or_ge b H.length with q|q
   ·rw [hgetlt b q] at hb
    obtain ⟨g, ob1, h1, h2, h3, h4⟩ := hok.ob b ob0 hb
    have hlt := (Array.getElem?_eq_some_iff.1 h3).1
    exact ⟨g, ob1, h1, hMn g hlt h2, (hsame g hlt).trans h3, h4.mono hle⟩
   grind
  ·have hold : ∀ b g, S'.at (H ++ [.row s t (es.map fun e => e.map (xf0 K0 d))]) b = some g → (b < H.length ∧ S.at H b = some g) ∨ (b = H.length ∧ S.w.heap.size ≤ g) := fun b g hb => by
    rcases Nat.lt_trichotomy b H.length with q|q|q
    ·grind [St.at, b, xd0]
    ·right
     subst q
     refine ⟨rfl, ?_⟩
     simp only [St.at, hgetn, S', xc0] at hb
     cases hm : S1.μ j with
     | none => rw [hm] at hb; cases hb
     | some gk =>
      grind
    ·simp [St.at, List.getElem?_eq_none (l := H ++ [Blk.row s t (es.map fun e => e.map (xf0 K0 d))]) (i := b) (by simp; omega)] at hb
   have hsmall : ∀ b g, S.at H b = some g → g < S.w.heap.size := fun b g hb => by
    unfold St.at at hb
    split at hb
    ·rename_i s1 t1 es1 hbb
     rcases hok.row b s1 t1 es1 hbb with q|⟨g1, k1, cs, h1, h2, h3, _⟩
     ·rw [q.1] at hb; cases hb
     grind
    ·rename_i ob0 hbb
     obtain ⟨g1, ob1, h1, h2, h3, _⟩ := hok.ob b ob0 hbb
     grind
    ·cases hb
   rcases hold b g hb with ⟨q1, q2⟩|⟨q1, q2⟩ <;> rcases hold b' g hb' with ⟨p1, p2⟩|⟨p1, p2⟩
   ·exact hok.inj b b' g q2 p2
   ·have := hsmall b g q2; omega
   ·have := hsmall b' g p2; omega
   ·omega
 have hone : ∀ (a : AV) (u : Value), qbh9 K0 d j a = true → Rel (S1.env K) a u → Rel (S'.env (H ++ [.row s t (es.map fun e => e.map (xf0 K0 d))])) (renA K0 d j H.length a) u := fun a u hk hru => by
  have other : okA K0 d a = true → renA K0 d j H.length a = qu0 K0 d a → Rel (S'.env (H ++ [.row s t (es.map fun e => e.map (xf0 K0 d))])) (renA K0 d j H.length a) u := fun h1 h2 => by
   grind [Rel.mono, wS0]
  cases a with
  | own b n hh c =>
   by_cases hbj : b = j
   ·subst hbj
    simp only [renA, if_pos]
    simp only [Rel] at hru ⊢
    obtain ⟨s1, cur, h1, h2, h3⟩ := hru
    have h1 : shOf K b = some (s1, cur) := h1
    rw [shOf, hj] at h1
    injection h1 with h1; injection h1 with e1 e2; subst e1; subst e2
    refine ⟨s, es.length, ?_, h2, fun q => ?_⟩
    ·show shOf _ _ = _
     rw [shOf, hgetn]; simp
    ·have h3 := h3 q
     have hμ : (S'.env (H ++ [.row s t (es.map fun e => e.map (xf0 K0 d))])).μ H.length = (S1.env K).μ b := xc0 _ _ _
     rw [hμ]
     exact h3
   simp_all [renA, if_neg, qbh9, Bool.or_eq_true, beq_iff_eq]
  | _ => exact other hk rfl
 refine ⟨v, S', rfl, rfl, hok', ⟨hext.os, hext.tape, hext.output, hext.size, fun k hk _ => hsame k hk, fun k o hk => hFM k o (hext.M k o hk), fun k hk => ?_, fun k hk => ?_, fun b s cur hb hbs => ?_, fun b g hb hg => ?_, fun q => by simp⟩, ?_⟩
 ·grind
 ·obtain ⟨b, hb⟩ := hk
  rcases Nat.lt_trichotomy b H.length with q|q|q
  ·left
   exact ⟨b, by grind [St.at, b, xd0]⟩
  ·right
   subst q
   simp only [St.at, hgetn, S', xc0] at hb
   cases hm : S1.μ j with
   | none => rw [hm] at hb; cases hb
   | some gk =>
    grind
  grind [St.at, List.getElem?_eq_none, xf0, b]
 ·exact ⟨cur, Nat.le_refl _, by rw [shOf, hgetlt b hb]; exact hbs, fun _ => xd0 _ _ (by omega)⟩
 ·rw [mpOf, hgetlt b hb]; exact hg
 ·subst hr'
  cases r with
  | tup vs =>
   simp only [renR, kaB9, Rel] at *
   obtain ⟨us, rfl, hus⟩ := hrel
   refine ⟨us, rfl, RelL.mk (by simpa using hus.length) fun i a u hia hiu => ?_⟩
   rw [List.getElem?_map] at hia
   cases hy : vs[i]? with
   | none => rw [hy] at hia; cases hia
   | some y =>
    rw [hy] at hia
    simp only [Option.map_some, Option.some.injEq] at hia
    subst hia
    obtain ⟨u', hu', hry⟩ := hus.get hy
    grind
  | _ => simp only [renR, kaB9] at *; exact hone _ _ hr hrel
end Go.V
set_option linter.unusedVariables false
set_option linter.unusedSimpArgs false
set_option autoImplicit false
namespace Go.V
open Go Go.RowKit
section
variable {ρ : Bool} {P : Program} {G : Glob} {n0 n : Nat} {body : Code} {p : List Nat} {Q : ke0} {B : Prop} {s : Nat → AV} {H : List Blk}
def vaV9 (ρ : Bool) (P : Program) (G : Glob) (n0 n : Nat) (body : Code) (p : List Nat) (Q : ke0) : Nat → (Nat → AV) → List Blk → Prop
 | 0, _, _ => False
 | m + 1, s, H => At ρ P G n0 n body (0 :: p) (thenS (vaV9 ρ P G n0 n body p Q m) Q) s H
theorem kcQ9 {Q' : ke0} (h : At ρ P G n0 n body p Q s H) (hq : ∀ e s H, Q e s H → Q' e s H) : At ρ P G n0 n body p Q' s H :=
 wr0 h fun e a H ⟨s, ha, q⟩ => ⟨s, ha, hq e s H q⟩
theorem ze0 (m : Nat) (hs : xcD9 (atR body p) = true) (h : Go ρ P G n0 n body (0 :: p) (thenS (vaV9 ρ P G n0 n body p Q m) Q) B s H) : Go ρ P G n0 n body p Q B s H := by
 refine go_loop hs (fun k s H => vaV9 ρ P G n0 n body p Q k s H) (m := m + 1) h.1 (Weak.refl _ _) h.2 fun k s H hI => ?_
 cases k with
 | zero => exact hI.elim
 | succ k =>
  refine ⟨trivial, kcQ9 hI fun e s' H' q => ?_⟩
  cases e with
  | normal => exact ⟨k, s', H', Nat.lt_succ_self k, Weak.refl _ _, q⟩
  | _ => exact q
theorem xbB9 {m : Nat} (h : Go ρ P G n0 n body (0 :: p) (thenS (vaV9 ρ P G n0 n body p Q m) Q) B s H) : Out (thenS (vaV9 ρ P G n0 n body p Q (m + 1)) Q) .normal B s H := ⟨h.1, h.2⟩
end
end Go.V
