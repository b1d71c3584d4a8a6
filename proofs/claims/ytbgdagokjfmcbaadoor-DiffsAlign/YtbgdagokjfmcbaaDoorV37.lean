import Derived.Test.YtbgdagokjfmcbaaDoorV33
set_option linter.unusedVariables false
set_option linter.unusedSimpArgs false
set_option autoImplicit false
namespace Go.V
open Go Go.RowKit
section
variable {P : Program} {G : Glob} {q : Operand → Bool}
structure PInv (P : Program) (G : Glob) (dl : List (Nat × Nat)) (ops : List Oper) (n0 : Nat) (S0 : St) (H0 : List Blk) (ds : List Deferred) (ps : List Pend) (listed lr : Array Bool) (a : List AV) (H : List Blk) (S : St) (act : Act) : Prop where
 ok : S.Ok H
 g : Globs G S.M
 n : n0 ≤ H.length
 ext : Ext n0 S0 H0 S H
 rel : RelL (S.env H) (scr ps a) act.tmps.toList
 marks : Marks S0 ds S H act.defers
 l : LRel ops.length ps listed lr
 cl : kR0 .any ops lr
 pd : ∀ p ∈ ps, wbX9 P dl ops S0 S H act listed p
 pw : ps.Pairwise fun x y => x.ja ≠ y.ja ∧ x.at_ ≠ y.at_
theorem qw0 {dl : List (Nat × Nat)} {ops : List Oper} (h : delayOkA P dl ops = true) {ja js : Nat} (hm : (ja, js) ∈ dl) : dl.lookup ja = some js ∧ dl.lookup js = none ∧ ∃ oa os t d T, ops[ja]? = some oa ∧ ops[js]? = some os ∧ qag9 oa = some (t, d) ∧ kc0 P t = some T ∧ T.zero.length = T.sz ∧ ja ∈ aft os ∧ ∀ k ∈ aft oa ++ aft os, k = ja ∨ ∀ js', dl.lookup k = some js' → js' = js ∨ js' ∈ aft os := by
 have := List.all_eq_true.1 h _ hm;simp only [Bool.and_eq_true, beq_iff_eq, Option.isNone_iff_eq_none] at this;obtain ⟨⟨h1, h2⟩, h3⟩ := this;refine ⟨h1, h2, ?_⟩;cases ha : ops[ja]? with
 | none => simp [ha] at h3
 | some oa =>
  cases hs : ops[js]? with
  | none => simp [ha, hs] at h3
  | some os =>
   simp only [ha, hs, Bool.and_eq_true, List.all_eq_true, Bool.or_eq_true, beq_iff_eq] at h3;obtain ⟨⟨h4, h5⟩, h6⟩ := h3;cases hal : qag9 oa with
   | none => simp [hal] at h4
   | some td =>
    obtain ⟨t, d⟩ := td;simp only [hal] at h4;cases hT : kc0 P t with
    | none => simp [hT] at h4
    | some T =>
     simp only [hT, beq_iff_eq] at h4;refine ⟨oa, os, t, d, T, rfl, rfl, hal, hT, h4, by simpa using h5, fun k hk => ?_⟩;rcases h6 k hk with q|q
     ·exact .inl q
     ·refine .inr fun js' hj => ?_;rw [hj] at q;simpa using q
theorem zO0 {dl : List (Nat × Nat)} {ops : List Oper} (h : delayOkB dl ops = true) {i : Nat} {o : Oper} (ho : (delays dl ops)[i]? = some o) : ∀ k ∈ aft o, k < i := by
 have hlt : i < ops.length := by rw [← vF0 dl ops]; exact (List.getElem?_eq_some_iff.1 ho).1
 have := List.all_eq_true.1 h i (List.mem_range.2 hlt);rw [ho] at this;intro k hk;simpa using List.all_eq_true.1 this k hk
theorem xaM9 {dl : List (Nat × Nat)} {ops : List Oper} (h : delayOkC dl ops = true) {i : Nat} {o : Oper} (ho : ops[i]? = some o) {ja js : Nat} (hm : (ja, js) ∈ dl) {oa : Oper} {d : Tmp} (ha : ops[ja]? = some oa) (hd : oa.dst = some d) (hne : ja ≠ i) :
  ((dl.lookup i).isSome = true → o.dst ≠ some d) ∧ ((dl.lookup i).isSome = false → (ja ∈ aft o ∧ (js = i ∨ js ∈ aft o)) ∨ (ja ∉ aft o ∧ d ∉ o.looksAt ops.toArray ∧ o.dst ≠ some d)) := by
 have hlt := (List.getElem?_eq_some_iff.1 ho).1;have := List.all_eq_true.1 h i (List.mem_range.2 hlt);rw [ho] at this;have := List.all_eq_true.1 this _ hm;have hne' : (ja == i) = false := by simp [hne]
 simp only [qdo9, ha, hd, hne', Bool.false_or] at this;constructor
 ·intro hs;rw [if_pos hs] at this;simpa using this
 ·intro hs;rw [hs, if_neg (by simp)] at this;simpa [and_assoc] using this
theorem kZ0 {dl : List (Nat × Nat)} {ops : List Oper} {i : Nat} {o : Oper} {k : Nat} (h : k ∈ aft o) : k ∈ aft (zt0 dl ops i o) := by
 obtain ⟨e, he, hb, rfl⟩ := xbX9 h;refine xz0 ?_ hb;unfold zt0;split
 ·split
  ·simp [he]
  ·exact he
 ·exact he
theorem qbH9 {dl : List (Nat × Nat)} {i js : Nat} (h : dl.lookup i = some js) : (i, js) ∈ dl := by
 induction dl with
 | nil => cases h
 | cons p dl ih =>
  obtain ⟨x, y⟩ := p;rw [List.lookup_cons] at h;split at h
  ·rename_i e;injection h with h; subst h
   have : i = x := by simpa using e
   subst this;exact List.mem_cons_self ..
  ·exact List.mem_cons_of_mem _ (ih h)
section
variable {dl : List (Nat × Nat)} {ops : List Oper} {n0 : Nat} {S0 : St} {H0 : List Blk} {ds : List Deferred} {ps : List Pend} {listed lr : Array Bool} {a : List AV} {H : List Blk} {S : St} {act : Act} {K : List AV → List Blk → Prop}
theorem wy0 {l : Array Bool} {i j n : Nat} (hs : l.size = n) (hj : j < n) : (l.setIfInBounds i true).getD j true = (l.getD j true || i == j) := by
 have h1 : j < l.size := by omega
 by_cases e : i = j
 ·subst e; simp [h1]
 ·simp [h1, e]
theorem qaY9 (hl : LRel ops.length ps listed lr) {p : Pend} (hp : p ∈ ps) (hj : p.ja < ops.length) : lr.getD p.ja true = true := by
 rw [hl.2.2 p.ja hj];have : (ps.any fun x => x.ja == p.ja) = true := List.any_eq_true.2 ⟨p, hp, by simp⟩;rw [this, Bool.or_true]
theorem zaY9 (hckA : delayOkA P dl ops = true) {l1 l2 : List Pend} {p : Pend} (hps : ps = l1 ++ p :: l2) (hI : PInv P G dl ops n0 S0 H0 ds ps listed lr a H S act) {f : Nat} (hr : p.ja ∈ Region.ready .any (delays dl ops).toArray listed)
  (hA : AAny P G q (delays dl ops) .any K (f + 1) listed a H) :
  ∃ a' H' S', AAny P G q (delays dl ops) .any K f (listed.setIfInBounds p.ja true) a' H' ∧ S'.w = S.w ∧ PInv P G dl ops n0 S0 H0 ds (l1 ++ l2) (listed.setIfInBounds p.ja true) lr a' H' S' act := by
 have hp : p ∈ ps := by rw [hps]; simp
 obtain ⟨hm, ⟨oa, hoa, hal⟩, hu1, hu2, hsz0, hlt, hfree, htmp, T, cs, hT, hTl, hTz, h1c, hcell⟩ := hI.pd p hp;obtain ⟨hop, hdst, hgd⟩ := vw0 hal;obtain ⟨o', ho', r, H', hs, hA'⟩ := hA.2 _ hr;rw [kk0, hoa] at ho';simp only [Option.map_some, Option.some.injEq] at ho';subst ho';obtain ⟨e1, e2, e3⟩ := kaf9 dl ops p.ja oa;have hs1 := (xB0 dl e1 e3).1 hs.1;rw [e2, hdst] at hA';unfold kn0 at hs1;rw [hgd] at hs1;simp only [hop] at hs1;have key : r = .ptr H.length 0 0 1 ∧ H' = H ++ [.row T.sz p.t [T.zero]] := by
  cases hs1 with
  | pure h => simp [zf0, bad] at h
  | eff he h => simp [xg0, vR0, hT]
  | made he r h => cases he
  | mkat he b r H' h => cases he
  | call c f g cap ho => cases ho
  | yield c f b ho => cases ho
 obtain ⟨rfl, rfl⟩ := key;have hja : p.ja < ops.length := (List.getElem?_eq_some_iff.1 hoa).1;have hrow : RowIn (S.env H) T.sz [T.zero] cs := by
  rw [← hTl];exact vaq9 (by rw [hTz]; exact kl0 _ _) h1c
 have hcs : cs.size = 1 * T.sz := by rw [← hTl, hTz]; simp
 have hle := vbX9 (S := S) (H := H) (L := p.at_) (s := T.sz) (t := p.t) (es := [T.zero]);refine ⟨_, _, S.take H.length p.at_, hA', rfl, zcw9 hI.ok hfree hcell (by simp) hcs hrow, hI.g, by have := hI.n; simp; omega, xcw9 hI.ext hI.n hsz0, ?_, kbG9 hI.marks ⟨cs, hcell⟩, ?_, hI.cl, ?_, ?_⟩
 ·refine RelL.mk (by rw [qO0]; have := hI.rel.length; rw [qO0] at this; simpa [putA] using this) fun t x v hx hv => ?_;rw [zat9] at hx;cases hy : (putA a (some p.d) (.ptr H.length 0 0 1))[t]? with
  | none => rw [hy] at hx; cases hx
  | some y =>
   rw [hy] at hx;simp only [Option.map_some, Option.some.injEq] at hx;by_cases hany : ((l1 ++ l2).any fun x => x.d == t) = true
   ·rw [if_pos hany] at hx; subst hx; simp [Rel]
   ·rw [if_neg hany] at hx; subst hx;by_cases hd : p.d = t
    ·subst hd;have hlt2 : p.d < a.length := by
      have := (List.getElem?_eq_some_iff.1 hy).1;simpa [putA] using this
     simp [putA, hlt2] at hy;subst hy;have := htmp v (by simpa using hv);exact vad9 (k := 1) kj0 (by exact qf0 _ _ _) (by rw [this]; simp)
    ·have hy2 : a[t]? = some y := by
      simpa [putA, List.getElem?_set, hd] using hy
     have hx2 : (scr ps a)[t]? = some y := by
      rw [zat9, hy2, hps];have : ((l1 ++ p :: l2).any fun x => x.d == t) = false := by
       rw [Bool.not_eq_true] at hany;simp only [List.any_append, List.any_cons, Bool.or_eq_false_iff] at hany ⊢;exact ⟨hany.1, by simp [hd], hany.2⟩
      simp only [Option.map_some, this, Bool.false_eq_true, if_false]
     obtain ⟨v', hv', hrel⟩ := hI.rel.get hx2;rw [hv] at hv'; injection hv' with hv'; subst hv'
     exact Rel.mono hle _ _ hrel
 ·obtain ⟨q1, q2, q3⟩ := hI.l;refine ⟨by simpa using q1, q2, fun j hj => ?_⟩;rw [q3 j hj, wy0 q1 hj, hps];simp only [List.any_append, List.any_cons];cases listed.getD j true <;> cases (p.ja == j) <;> cases (l1.any fun p => p.ja == j) <;> cases (l2.any fun p => p.ja == j) <;> rfl
 ·intro p' hp';have hp2 : p' ∈ ps := by rw [hps]; rcases List.mem_append.1 hp' with h|h <;> simp [h]
  have hne : p'.ja ≠ p.ja ∧ p'.at_ ≠ p.at_ := by
   have hpw := hI.pw;rw [hps, List.pairwise_append] at hpw;rcases List.mem_append.1 hp' with h|h
   ·exact hpw.2.2 p' h p (List.mem_cons_self ..)
   ·have := (List.pairwise_cons.1 hpw.2.1).1 p' h;exact ⟨Ne.symm this.1, Ne.symm this.2⟩
  obtain ⟨g1, ⟨oa', g2, g3⟩, g4, g5, g6, g7, g8, g9, T', cs', g10⟩ := hI.pd p' hp2;obtain ⟨f1, f2, oa2, os2, t2, d2, T2, f3, f4, _⟩ := qw0 hckA g1;have hj1 : p'.ja < ops.length := (List.getElem?_eq_some_iff.1 g2).1;have hj2 : p'.js < ops.length := (List.getElem?_eq_some_iff.1 f4).1;refine ⟨g1, ⟨oa', g2, g3⟩, ?_, ?_, g6, g7, kbX9 g8 hne.2, g9, T', cs', g10⟩
  ·rw [wy0 hI.l.1 hj1, g4]; simp; exact Ne.symm hne.1
  ·rw [wy0 hI.l.1 hj2, g5]; simp;intro e;have := (qw0 hckA hm).1;rw [e, f2] at this; cases this
 ·rw [hps] at hI;exact hI.pw.sublist (by simp)
theorem qbv9 {n : Nat} {l : Array Bool} : ∀ j, j < n → l.getD j true = false → ∃ m, m ≤ j ∧ l.getD m true = false ∧ ∀ k, k < m → l.getD k true = true := by
 intro j;induction j using Nat.strongRecOn with
 | ind j ih =>
  intro hj hu;by_cases h : ∃ k, k < j ∧ l.getD k true = false
  ·obtain ⟨k, hk, hku⟩ := h;obtain ⟨m, h1, h2, h3⟩ := ih k hk (by omega) hku;exact ⟨m, by omega, h2, h3⟩
  ·refine ⟨j, Nat.le_refl _, hu, fun k hk => ?_⟩;cases hv : l.getD k true with
   | true => rfl
   | false => exact absurd ⟨k, hk, hv⟩ h
theorem vJ0 (l : List Oper) (j : Nat) : l.toArray[j]? = l[j]? := by simp
theorem qbY9 (hckA : delayOkA P dl ops = true) (hckB : delayOkB dl ops = true) : ∀ (k : Nat) (ps : List Pend) (listed : Array Bool) (a : List AV) (H : List Blk) (S : St) (m : Nat), ps.length = k → Region.ready .any ops.toArray lr = [] → AAny P G q (delays dl ops) .any K (m + ps.length) listed a H → PInv P G dl ops n0 S0 H0 ds ps listed lr a H S act → Ends G n0 S0 H0 ds K act S.w := by
 intro k;induction k with
 | zero =>
  intro ps listed a H S m hk hr hA hI;have e : ps = [] := List.eq_nil_of_length_eq_zero hk;subst e;have hre : Region.ready .any (delays dl ops).toArray listed = [] := by
   refine List.eq_nil_iff_forall_not_mem.2 fun j hj => ?_;obtain ⟨hu, o, ho, hd⟩ := mem_ready.1 hj;rw [vJ0] at ho;have hjl : j < ops.length := by rw [← vF0 dl ops]; exact (List.getElem?_eq_some_iff.1 ho).1
   obtain ⟨mm, h1, h2, h3⟩ := qbv9 (n := ops.length) j hjl hu;have hml : mm < ops.length := by omega
   have hom : ops[mm]? = some ops[mm] := by simp [hml]
   have : mm ∈ Region.ready .any ops.toArray lr := by
    refine mem_ready.2 ⟨by rw [hI.l.2.2 mm hml, h2]; rfl, ops[mm], by rw [vJ0]; exact hom, fun e he hb => ?_⟩;have hlt : e.on < mm := zO0 hckB (by rw [kk0, hom]; rfl) e.on (kZ0 (xz0 he hb));rw [wz0 hI.l.2.1 (by omega), hI.l.2.2 _ (by omega), h3 _ hlt]; rfl
   rw [hr] at this; cases this
  have hK : K a H := by
   cases m with
   | zero => exact hA.2
   | succ m => exact hA.1 hre
  exact ⟨a, H, S, rfl, hK, hI.ok, hI.ext, hI.rel, hI.marks⟩
 | succ k ih =>
  intro ps listed a H S m hk hr hA hI;have hne : ps ≠ [] := fun e => by rw [e] at hk; cases hk
  obtain ⟨p0, hp0⟩ := List.exists_mem_of_ne_nil _ hne;obtain ⟨g1, ⟨oa, g2, g3⟩, g4, _⟩ := hI.pd p0 hp0;obtain ⟨mm, h1, h2, h3⟩ := qbv9 (n := ops.length) p0.ja (List.getElem?_eq_some_iff.1 g2).1 g4;have hml : mm < ops.length := by have := (List.getElem?_eq_some_iff.1 g2).1; omega
  have hom : ops[mm]? = some ops[mm] := by simp [hml]
  by_cases hany : ∃ p ∈ ps, p.ja = mm
  ·obtain ⟨p, hp, rfl⟩ := hany;obtain ⟨l1, l2, hps⟩ := List.append_of_mem hp;have hlen : ps.length = (l1 ++ l2).length + 1 := by rw [hps]; simp; omega
   have hr2 : p.ja ∈ Region.ready .any (delays dl ops).toArray listed := by
    refine mem_ready.2 ⟨h2, zt0 dl ops p.ja ops[p.ja], by rw [vJ0, kk0, hom]; rfl, fun e he hb => ?_⟩;have hlt : e.on < p.ja := zO0 hckB (by rw [kk0, hom]; rfl) e.on (xz0 he hb);rw [wz0 hI.l.1 (by omega)]; exact h3 _ hlt
   rw [hlen, ← Nat.add_assoc] at hA;obtain ⟨a', H', S', hA', hw, hI'⟩ := zaY9 hckA hps hI hr2 hA;have := ih (l1 ++ l2) _ a' H' S' m (by omega) hr hA' hI';rw [hw] at this; exact this
  ·exfalso;have : mm ∈ Region.ready .any ops.toArray lr := by
    have hno : (ps.any fun p => p.ja == mm) = false := by
     rw [Bool.eq_false_iff]; intro hh;obtain ⟨p, hp, e⟩ := List.any_eq_true.1 hh;exact hany ⟨p, hp, by simpa using e⟩
    refine mem_ready.2 ⟨by rw [hI.l.2.2 mm hml, h2, hno]; rfl, ops[mm], by rw [vJ0]; exact hom, fun e he hb => ?_⟩;have hlt : e.on < mm := zO0 hckB (by rw [kk0, hom]; rfl) e.on (kZ0 (xz0 he hb));rw [wz0 hI.l.2.1 (by omega), hI.l.2.2 _ (by omega), h3 _ hlt]; rfl
   rw [hr] at this; cases this
theorem zbY9 (p : Nat → Bool) (i : Nat) : ∀ n, (List.range n).countP (fun j => p j && j != i) + (if i < n ∧ p i = true then 1 else 0) = (List.range n).countP p
 | 0 => by simp
 | n + 1 => by
  have ih := zbY9 p i n;rw [List.range_succ, List.countP_append, List.countP_append];simp only [List.countP_cons, List.countP_nil];by_cases e : n = i
  ·subst e;simp only [bne_self_eq_false, Bool.and_false, Nat.lt_irrefl, false_and, if_false, Nat.lt_succ_self, true_and] at ih ⊢;cases p n <;> simp_all
  ·have h1 : (n != i) = true := by simp [e]
   have h2 : (i < n + 1) ↔ (i < n) := by omega
   simp only [h1, Bool.and_true, h2];omega
theorem wcX9 {n i : Nat} {l : Array Bool} (hs : l.size = n) (hi : i < n) (hu : l.getD i true = false) {f : Nat} (h : (List.range n).countP (fun j => !l.getD j true) = f + 1) : (List.range n).countP (fun j => !(l.setIfInBounds i true).getD j true) = f := by
 have h1 := zbY9 (fun j => !l.getD j true) i n;rw [if_pos ⟨hi, by simp [hu]⟩, h] at h1;have h2 : (List.range n).countP (fun j => !(l.setIfInBounds i true).getD j true) = (List.range n).countP (fun j => !l.getD j true && j != i) := by
  refine List.countP_congr fun j hj => ?_;rw [wy0 hs (List.mem_range.1 hj)];by_cases e : i = j
  ·subst e; simp
  ·have e1 : (i == j) = false := by simp [e]
   have e2 : (j != i) = true := by simp [Ne.symm e]
   rw [e1, e2]; simp
 omega
theorem xaY9 {p : Pend} {S' : St} {H' : List Blk} {act' : Act} {listed' : Array Bool} (h : wbX9 P dl ops S0 S H act listed p) (hsz : S.w.heap.size ≤ S'.w.heap.size) (hf : S.Free H p.at_ → S'.Free H' p.at_ ∧ S'.w.heap[p.at_]? = S.w.heap[p.at_]?)
  (hact : act'.tmps[p.d]? = act.tmps[p.d]?) (h1 : listed'.getD p.ja true = false) (h2 : listed'.getD p.js true = false) : wbX9 P dl ops S0 S' H' act' listed' p := by
 obtain ⟨g1, g2, g3, g4, g5, g6, g7, g8, T, cs, t1, t2, t3, t4, t5⟩ := h;obtain ⟨f1, f2⟩ := hf g7;exact ⟨g1, g2, h1, h2, g5, by omega, f1, fun v hv => g8 v (by rw [← hact]; exact hv), T, cs, t1, t2, t3, t4, by rw [f2]; exact t5⟩
theorem waY9 {act : Act} {d : Option Tmp} {v : Value} {t : Tmp} (h : d ≠ some t) : (act.put d v).tmps[t]? = act.tmps[t]? := by
 cases d with
 | none => rfl
 | some d =>
  have : d ≠ t := fun e => h (by rw [e]);simp [Act.put, this]
theorem vcX9 {d : Option Tmp} {r : AV} (h : ∀ p ∈ ps, d ≠ some p.d) : scr ps (putA a d r) = putA (scr ps a) d r := by
 cases d with
 | none => rfl
 | some d =>
  refine List.ext_getElem? fun t => ?_;rw [zat9];simp only [putA, List.getElem?_set];by_cases e : d = t
  ·subst e;have hno : (ps.any fun p => p.d == d) = false := by
    rw [Bool.eq_false_iff]; intro hh;obtain ⟨p, hp, e⟩ := List.any_eq_true.1 hh;have e : p.d = d := by simpa using e
    exact h p hp (by rw [e])
   rw [if_pos rfl, if_pos rfl, qO0];by_cases hlt : d < a.length
   ·rw [if_pos hlt, Option.map_some, if_neg (by rw [hno]; simp)]
   ·rw [if_neg hlt]; rfl
  ·rw [if_neg e, if_neg e, zat9]
theorem xbY9 {o : Oper} {t : TypeId} {T : TI} (hop : o.op = .alloc t) (hT : kc0 P t = some T) (hz : T.zero.length = T.sz) (S : St) (ρ : Operand → Value) : ∃ cs : Array Value, T.zero = cs.toList.map vA0 ∧ (∀ u ∈ cs.toList, u.oneCell' = true) ∧
  (execOp ρ o).run P S.w = .ok (.value (.pointer (some ⟨S.w.heap.size, 0, none⟩))) (S.made t cs).w := by
 obtain ⟨i, d, z, hi, hd, hz', h1, hTT⟩ := ve0 hT;refine ⟨z.cells, by rw [hTT], h1, ?_⟩;obtain ⟨dst, op, type, pos, after, guard⟩ := o;simp only at hop;subst hop;simp [execOp, Instr.alloc, zeroValue, typeInfo, hi, hz', newVar, newRow, St.made]; rfl
theorem vaE9 {Q : Pend → Prop} : ∀ (l : List Pend), (∃ p ∈ l, Q p) → ∃ p ∈ l, Q p ∧ ∀ p' ∈ l, Q p' → p.ja ≤ p'.ja
 | [], h => by obtain ⟨p, hp, _⟩ := h; cases hp
 | x :: l, h => by
  by_cases hl : ∃ p ∈ l, Q p
  ·obtain ⟨p, hp, q, hm⟩ := vaE9 l hl;by_cases hx : Q x ∧ x.ja < p.ja
   ·refine ⟨x, List.mem_cons_self, hx.1, fun p' hp' q' => ?_⟩;rcases List.mem_cons.1 hp' with rfl|hp'
    ·exact Nat.le_refl _
    ·have := hm p' hp' q'; omega
   ·refine ⟨p, List.mem_cons_of_mem _ hp, q, fun p' hp' q' => ?_⟩;rcases List.mem_cons.1 hp' with rfl|hp'
    ·exact Nat.le_of_not_lt fun h => hx ⟨q', h⟩
    ·exact hm p' hp' q'
  ·obtain ⟨p, hp, q⟩ := h;rcases List.mem_cons.1 hp with rfl|hp
   ·refine ⟨p, List.mem_cons_self, q, fun p' hp' q' => ?_⟩;rcases List.mem_cons.1 hp' with rfl|hp'
    ·exact Nat.le_refl _
    ·exact absurd ⟨p', hp', q'⟩ hl
   ·exact absurd ⟨p, hp, q⟩ hl
theorem wcw9 {Q : Exit → Act → World → Prop} {ro : Option Nat} (hckA : delayOkA P dl ops = true) (hckB : delayOkB dl ops = true) (hckC : delayOkC dl ops = true) (hQ : ∀ act w, Ends G n0 S0 H0 ds K act w → Q .normal act w) :
  ∀ (f : Nat) (ps : List Pend) (listed lr : Array Bool) (a : List AV) (H : List Blk) (S : St) (act : Act), AAny P G q (delays dl ops) .any K (f + ps.length) listed a H → PInv P G dl ops n0 S0 H0 ds ps listed lr a H S act →
   (List.range ops.length).countP (fun j => !lr.getD j true) = f → wpAnyIn (fen ro) 0 P .any ops.toArray Q f lr act S.w := by
 intro f;induction f with
 | zero =>
  intro ps listed lr a H S act hA hI hc;have hr : Region.ready .any ops.toArray lr = [] := by
   refine List.eq_nil_iff_forall_not_mem.2 fun j hj => ?_;obtain ⟨hu, o, ho, hd⟩ := mem_ready.1 hj;rw [vJ0] at ho;have hjl : j < ops.length := (List.getElem?_eq_some_iff.1 ho).1;have := List.countP_eq_zero.1 hc j (List.mem_range.2 hjl);rw [hu] at this; exact this rfl
  exact ⟨hr, hQ _ _ (qbY9 hckA hckB _ ps listed a H S 0 rfl hr hA hI)⟩
 | succ f ihf =>
  intro ps listed lr a H S act hA hI hc;refine ⟨fun hr => hQ _ _ (qbY9 hckA hckB _ ps listed a H S (f + 1) rfl hr hA hI), fun i hi => ?_⟩
  suffices hmain : ∀ (k : Nat) (ps : List Pend) (listed : Array Bool) (a : List AV) (H : List Blk) (S : St), ps.length = k → AAny P G q (delays dl ops) .any K (f + 1 + ps.length) listed a H → PInv P G dl ops n0 S0 H0 ds ps listed lr a H S act → wpOpIn (fen ro) 0 P ops.toArray Q i (wpAnyIn (fen ro) 0 P .any ops.toArray Q f (lr.setIfInBounds i true)) act S.w from hmain _ ps listed a H S rfl hA hI
  clear hA hI ps listed a H S;intro k;induction k using Nat.strongRecOn with
  | ind k ihk =>
  intro ps listed a H S hk hA hI;obtain ⟨hu, o, ho, hdep⟩ := mem_ready.1 hi;have ho2 := ho;rw [vJ0] at ho2;have hil : i < ops.length := (List.getElem?_eq_some_iff.1 ho2).1;have hlri := hI.l.2.2 i hil;rw [hu] at hlri;have hli : listed.getD i true = false := by
   cases h : listed.getD i true with
   | false => rfl
   | true => rw [h] at hlri; cases hlri
  have hnp : ∀ p ∈ ps, p.ja ≠ i := fun p hp e => by
   have : (ps.any fun x => x.ja == i) = true := List.any_eq_true.2 ⟨p, hp, by simp [e]⟩;rw [this, Bool.or_true] at hlri; cases hlri
  have hc2 := wcX9 hI.l.2.1 hil hu hc;have hcl2 := xD0 hI.cl hi;have hjl : ∀ p ∈ ps, p.ja < ops.length := fun p hp => by
   obtain ⟨_, ⟨oa, g2, _⟩, _⟩ := hI.pd p hp;exact (List.getElem?_eq_some_iff.1 g2).1
  have hsl : ∀ p ∈ ps, p.js < ops.length := fun p hp => by
   obtain ⟨g1, _⟩ := hI.pd p hp;obtain ⟨_, _, _, _, _, _, _, _, f4, _⟩ := qw0 hckA g1;exact (List.getElem?_eq_some_iff.1 f4).1
  -- a store's operation is not done while its allocation waits
  have hjs : ∀ p ∈ ps, lr.getD p.js true = false := fun p hp => by
   obtain ⟨g1, _, _, g4, _⟩ := hI.pd p hp;rw [hI.l.2.2 _ (hsl p hp), g4, Bool.false_or, Bool.eq_false_iff];intro hh;obtain ⟨p', hp', e⟩ := List.any_eq_true.1 hh;have e : p'.ja = p.js := by simpa using e
   have h1 := (qw0 hckA (hI.pd p' hp').1).1;rw [e, (qw0 hckA g1).2.1] at h1; cases h1
  unfold wpOpIn;simp only [ho];by_cases hdl : (dl.lookup i).isSome = true
  ·-- an allocation: it waits
   obtain ⟨js, hjs0⟩ := Option.isSome_iff_exists.1 hdl;have hmem := qbH9 hjs0;obtain ⟨_, _, oa, os, t, d, T, f3, f4, f5, f6, f7, f8, f9⟩ := qw0 hckA hmem;rw [ho2] at f3; injection f3 with f3; subst f3
   obtain ⟨hop, hdst, hgd⟩ := vw0 f5;have hw : Region.wanted o (yielded ops.toArray act.tmps) = true := by simp [Region.wanted, hgd]
   rw [if_pos hw];refine ⟨fun _ _ => trivial, ?_⟩;obtain ⟨cs, hz1, hz2, hrun⟩ := xbY9 (P := P) hop f6 f7 S act.eval;rw [Oper.semAt_eq _ _ _ (fun c hc => by rw [hop] at hc; cases hc), hrun];show wpAnyIn (fen ro) 0 P .any ops.toArray Q f (lr.setIfInBounds i true) (act.put o.dst (.pointer (some ⟨S.w.heap.size, 0, none⟩))) (S.made t cs).w;have hdd : ∀ p ∈ ps, o.dst ≠ some p.d := fun p hp => by
    obtain ⟨g1, ⟨oa', g2, g3⟩, _⟩ := hI.pd p hp;exact (xaM9 hckC ho2 g1 g2 (vw0 g3).2.1 (hnp p hp)).1 hdl
   have hfr : S.Free H S.w.heap.size := ⟨fun ⟨x, hx⟩ => by have := qaj9 hI.ok hx; omega, by
    cases h : S.M S.w.heap.size with
    | none => rfl
    | some x => have := M_lt hI.ok (k := S.w.heap.size) (by rw [h]; simp); omega⟩
   refine ihf (⟨i, js, S.w.heap.size, d, t⟩ :: ps) listed (lr.setIfInBounds i true) a H (S.made t cs) (act.put o.dst (.pointer (some ⟨S.w.heap.size, 0, none⟩))) (by rw [List.length_cons]; rwa [show f + (ps.length + 1) = f + 1 + ps.length from by omega]) ?_ hc2;refine ⟨xcX9 hI.ok t cs, hI.g, hI.n, hI.ext.trans (zaM9 S H t cs), ?_, ?_, ⟨hI.l.1, by simpa using hI.l.2.1, fun j hj => ?_⟩, hcl2, fun p hp => ?_, List.pairwise_cons.2 ⟨fun p hp => ⟨fun e => hnp p hp e.symm, fun e => ?_⟩, hI.pw⟩⟩
   ·show RelL (S.env H) (putA (scr ps a) (some d) .top) _;rw [hdst];exact kam9 hI.rel (some d) (by simp [Rel])
   ·have e : (act.put o.dst (.pointer (some ⟨S.w.heap.size, 0, none⟩))).defers = act.defers := by cases o.dst <;> rfl
    rw [e]; exact hI.marks.mono (zaM9 (n0 := 0) S H t cs)
   ·rw [wy0 hI.l.2.1 hj, hI.l.2.2 j hj, List.any_cons];cases listed.getD j true <;> cases (i == j) <;> cases (ps.any fun p => p.ja == j) <;> rfl
   ·rcases List.mem_cons.1 hp with rfl|hp
    ·refine ⟨hmem, ⟨o, ho2, f5⟩, hli, ?_, hI.ext.size, by rw [xat9]; exact Nat.lt_succ_self _, hfr, fun v hv => ?_, T, cs, f6, f7, hz1, hz2, heap_alloc_new (S.w.drewN 0) _⟩
     ·cases h : listed.getD js true with
      | false => rfl
      | true =>
       have hjl2 : js < ops.length := (List.getElem?_eq_some_iff.1 f4).1;have h1 : lr.getD js false = true := by rw [wz0 hI.l.2.1 hjl2, hI.l.2.2 _ hjl2, h]; rfl
       obtain ⟨e, he, hb, hon⟩ := xbX9 f8;have := hI.cl js os f4 h1 e he hb;rw [hon, wz0 hI.l.2.1 hil, hu] at this; cases this
     ·rw [hdst] at hv;have hlt : d < act.tmps.size := by
       have := (Array.getElem?_eq_some_iff.1 hv).1;simpa [Act.put] using this
      simp [Act.put, hlt] at hv;exact hv.symm
    ·obtain ⟨g1, g2, g3, g4, g5, g6, g7, g8, g9⟩ := hI.pd p hp;exact xaY9 (hI.pd p hp) (by rw [xat9]; omega) (fun hf => St.Free.ext hf g6 (zaM9 (n0 := 0) S H t cs)) (waY9 (hdd p hp)) g3 g4
   ·have := hI.pd p hp;obtain ⟨_, _, _, _, _, g6, _⟩ := this;have e : S.w.heap.size = p.at_ := e;omega
  ·have hdl' : (dl.lookup i).isSome = false := Bool.eq_false_iff.2 hdl;by_cases hpe : ∃ p ∈ ps, p.ja ∈ aft o
   ·-- the allocation is taken over
    have hdn : ∀ x ∈ aft o, lr.getD x true = true := fun x hx => by
     obtain ⟨e, he, hb, rfl⟩ := xbX9 hx;have h1 := hdep e he hb;have hlt : e.on < i := zO0 hckB (by rw [kk0, ho2]; rfl) e.on (kZ0 (xz0 he hb))
     rwa [wz0 hI.l.2.1 (by omega)] at h1
    have hjiA : ∀ p ∈ ps, p.ja ∈ aft o → p.js = i := fun p hp hpa => by
     obtain ⟨g1, ⟨oa, g2, g3⟩, g4, g5, g6⟩ := hI.pd p hp;rcases (xaM9 hckC ho2 g1 g2 (vw0 g3).2.1 (hnp p hp)).2 hdl' with ⟨_, h|h⟩|⟨h, _⟩
     ·exact h
     ·exact absurd (hdn _ h) (by rw [hjs p hp]; simp)
     ·exact absurd hpa h
    obtain ⟨p, hp, hpa, hmin⟩ := vaE9 (Q := fun p => p.ja ∈ aft o) ps hpe;obtain ⟨g1, ⟨oa, g2, g3⟩, g4, g5, g6⟩ := hI.pd p hp;have hji := hjiA p hp hpa;obtain ⟨f1, f2, oa', os, t, d, T, f3, f4, f5, f6, f7, f8, f9⟩ := qw0 hckA g1;rw [g2] at f3; injection f3 with f3; subst f3
    rw [hji, ho2] at f4; injection f4 with f4; subst f4
    obtain ⟨l1, l2, hps⟩ := List.append_of_mem hp;have hlen : ps.length = (l1 ++ l2).length + 1 := by rw [hps]; simp; omega
    have hla : lr.getD p.ja true = true := qaY9 hI.l hp (hjl p hp);have hr2 : p.ja ∈ Region.ready .any (delays dl ops).toArray listed := by
     refine mem_ready.2 ⟨g4, zt0 dl ops p.ja oa, by rw [vJ0, kk0, g2]; rfl, fun e he hb => ?_⟩;have hlt : e.on < p.ja := zO0 hckB (by rw [kk0, g2]; rfl) e.on (xz0 he hb);have hpl := hjl p hp;rw [wz0 hI.l.1 (by omega)]
     -- it is listed for the machine
     have h12 : lr.getD e.on true = true ∧ e.on ∈ aft oa ++ aft o := by
      have hin : e ∈ oa.after ∨ e ∈ o.after := by
       unfold zt0 at he;rw [f1] at he;simp only [hji, ho2] at he;rcases Array.mem_append.1 he with h|h
       ·exact .inl h
       ·exact .inr (Array.mem_filter.1 h).1
      rcases hin with h|h
      ·have h1 := hI.cl p.ja oa g2 (by rw [wz0 hI.l.2.1 hpl]; exact hla) e h hb;rw [wz0 hI.l.2.1 (by omega)] at h1;exact ⟨h1, List.mem_append_left _ (xz0 h hb)⟩
      ·exact ⟨hdn _ (xz0 h hb), List.mem_append_right _ (xz0 h hb)⟩
     rw [hI.l.2.2 _ (by omega)] at h12;cases hv : listed.getD e.on true with
     | true => rfl
     | false =>
      exfalso;rw [hv, Bool.false_or] at h12;obtain ⟨p', hp', e1⟩ := List.any_eq_true.1 h12.1;have e1 : p'.ja = e.on := by simpa using e1
      have hl' := (qw0 hckA (hI.pd p' hp').1).1;rcases f9 e.on h12.2 with q|q
      ·omega
      ·rcases q p'.js (by rw [← e1]; exact hl') with e2|e2
       ·obtain ⟨_, _, _, os', _, _, _, _, k4, _, _, _, k8, _⟩ := qw0 hckA (hI.pd p' hp').1;rw [e2, hji, ho2] at k4; injection k4 with k4; subst k4
        have := hmin p' hp' k8;omega
       ·have := hdn _ e2;rw [hjs p' hp'] at this; cases this
    rw [hlen, ← Nat.add_assoc] at hA;obtain ⟨a', H', S', hA', hw, hI'⟩ := zaY9 hckA hps hI hr2 hA;have := ihk (l1 ++ l2).length (by omega) (l1 ++ l2) _ a' H' S' rfl hA' hI';unfold wpOpIn at this;simp only [ho] at this;rw [hw] at this; exact this
   ·-- any other operation
    have hno : ∀ p ∈ ps, p.ja ∉ aft o := fun p hp h => hpe ⟨p, hp, h⟩;have hap : ∀ p ∈ ps, p.d ∉ o.looksAt ops.toArray ∧ o.dst ≠ some p.d := fun p hp => by
     obtain ⟨g1, ⟨oa, g2, g3⟩, _⟩ := hI.pd p hp;rcases (xaM9 hckC ho2 g1 g2 (vw0 g3).2.1 (hnp p hp)).2 hdl' with ⟨h, _⟩|⟨_, h⟩
     ·exact absurd h (hno p hp)
     ·exact h
    have hdo : zt0 dl ops i o = o := by
     unfold zt0;have : dl.lookup i = none := by
      cases h : dl.lookup i with
      | none => rfl
      | some x => rw [h] at hdl'; cases hdl'
     rw [this]
    have hr2 : i ∈ Region.ready .any (delays dl ops).toArray listed := by
     refine mem_ready.2 ⟨hli, o, by rw [vJ0, kk0, ho2, Option.map_some, hdo], fun e he hb => ?_⟩;have hlt : e.on < i := zO0 hckB (by rw [kk0, ho2]; rfl) e.on (kZ0 (xz0 he hb));have h1 := hdep e he hb;rw [wz0 hI.l.2.1 (by omega), hI.l.2.2 _ (by omega)] at h1;rw [wz0 hI.l.1 (by omega)];cases hv : listed.getD e.on true with
     | true => rfl
     | false =>
      rw [hv, Bool.false_or] at h1;obtain ⟨p', hp', e1⟩ := List.any_eq_true.1 h1;have e1 : p'.ja = e.on := by simpa using e1
      exact absurd (xz0 he hb) (by rw [← e1]; exact hno p' hp')
    rw [show f + 1 + ps.length = f + ps.length + 1 from by omega] at hA;obtain ⟨o', ho', r, H', hs, hA'⟩ := hA.2 i hr2;rw [kk0, ho2, Option.map_some, hdo] at ho';injection ho' with ho'; subst ho'
    have hs1 := (xB0 dl rfl rfl).1 hs.1;have hs2 := kaX9 (ops := ops) ps (fun p hp => (hap p hp).1) hs1;refine xaJ9 hs2 hI.ok hI.g hI.rel fun v S' h1 h2 h3 => ?_;refine ihf ps (listed.setIfInBounds i true) (lr.setIfInBounds i true) (putA a o.dst r) H' S' (act.put o.dst v) hA' ?_ hc2;refine ⟨h1, hI.g.mono h2.M, Nat.le_trans hI.n (h2.len (Nat.le_refl _)), hI.ext.trans (h2.less hI.n (Nat.le_refl _)), ?_, ?_, ⟨by simpa using hI.l.1, by simpa using hI.l.2.1, fun j hj => ?_⟩, hcl2, fun p hp => ?_, hI.pw⟩
    ·rw [vcX9 fun p hp => (hap p hp).2];exact kam9 (RelL.mono (h2.le (Nat.le_refl _)) _ _ hI.rel) _ h3
    ·have e : (act.put o.dst v).defers = act.defers := by cases o.dst <;> rfl
     rw [e]; exact hI.marks.mono h2
    ·rw [wy0 hI.l.2.1 hj, wy0 hI.l.1 hj, hI.l.2.2 j hj];cases listed.getD j true <;> cases (i == j) <;> cases (ps.any fun p => p.ja == j) <;> rfl
    ·obtain ⟨g1, g2, g3, g4, g5, g6, g7, g8, g9⟩ := hI.pd p hp;have hne2 : p.js ≠ i := fun e => by
      obtain ⟨_, _, _, os, _, _, _, _, f4, _, _, _, f8, _⟩ := qw0 hckA g1;rw [e, ho2] at f4; injection f4 with f4; subst f4
      exact hno p hp f8
     refine xaY9 (hI.pd p hp) h2.size (fun hf => St.Free.ext hf g6 h2) (waY9 (hap p hp).2) ?_ ?_
     ·rw [wy0 hI.l.1 (hjl p hp), g3]; simp; exact fun e => hnp p hp e.symm
     ·rw [wy0 hI.l.1 (hsl p hp), g4]; simp; exact fun e => hne2 e.symm
end
end
section
variable {P : Program} {G : Glob} {q : Operand → Bool}
def topB : AV → Option Nat
 | .ptr b _ _ _ => some b
 | .own b _ _ _ => some b
 | .sub b _ _ _ => some b
 | .mp b => some b
 | _ => none
def apB (v w : AV) : Bool := match topB v.strip, topB w.strip with
 | some b, some b' => b != b'
 | _, _ => true
def rdOp : Op → Option Nat
 | .load _ (.tmp x) => some x
 | .fieldAddr _ (.tmp x) _ => some x
 | .indexAddr _ (.tmp x) _ => some x
 | .slice _ (.tmp x) _ _ _ => some x
 | .nilCheck (.tmp x) => some x
 | .call { callee := .builtin .len, args, argTypes } => match args.toList with|[.tmp x] => some x|_ => none
 | .buildSlice _ _ parts => match parts.toList with|[(_, .tmp x)] => some x|[(_, .const _)] => some 0|_ => none
 | _ => none
def qaa9 : Op → Option (Option Nat)
 | .store _ (.tmp y) _ => some (some y)
 | .makeSlice _ _ _ => some none
 | .call { callee := .builtin .append, args, argTypes } => match args.toList with|[.tmp y, _] => some (some y)|_ => none
 | .call { callee := .builtin .copy, args, argTypes } => match args.toList with|[.tmp y, _] => some (some y)|_ => none
 | .call { callee := .value _, .. } => some none
 | .alloc _ => some none
 | _ => none
def zbH9 (N : Nat → Prop) (H H' : List Blk) : Prop := ∀ b B, N b → H[b]? = some B → H'[b]? = some B
theorem ky0 {H H2 : List Blk} {b h : Nat} (hl : zj0 H b h = true) (hk : ∀ B, H[b]? = some B → H2[b]? = some B) : zj0 H2 b h = true := by
 unfold zj0 shOf at *;cases hb : H[b]? with
 | none => simp [hb] at hl
 | some B => rw [hk B hb]; rw [hb] at hl; exact hl
section
variable {H H2 : List Blk} {v : AV}
theorem xbH9 {t : TypeId} (h : (zQ0 P H t v).1 = true) (hk : ∀ b B, topB v = some b → H[b]? = some B → H2[b]? = some B) : zQ0 P H2 t v = zQ0 P H t v := by
 unfold zQ0 at *;cases hT : kc0 P t with
 | none => rfl
 | some T =>
  rw [hT] at h;cases v <;> try rfl
  rename_i b i o hh;simp only at h ⊢;cases hb : H[b]? with
  | none => simp [hb, bad] at h
  | some B => rw [hk b B rfl hb]
theorem vat9 {s : TypeId} {f : Nat} (h : (wo0 P H s v f).1 = true) (hk : ∀ b B, topB v = some b → H[b]? = some B → H2[b]? = some B) : wo0 P H2 s v f = wo0 P H s v f := by
 unfold wo0 at *;cases hF : xI0 P s f with
 | none => rfl
 | some oF =>
  rw [hF] at h;obtain ⟨off, F⟩ := oF;cases v <;> try rfl
  rename_i b i o hh;simp only [Bool.and_eq_true] at h ⊢;rw [h.1, ky0 h.1 fun B hB => hk b B rfl hB]
theorem kat9 {t : TypeId} {w : AV} (h : (vo0 P H t v w).1 = true) (hk : ∀ b B, topB v = some b → H[b]? = some B → H2[b]? = some B) : vo0 P H2 t v w = vo0 P H t v w := by
 unfold vo0 at *;cases w <;> try rfl
 cases hs : shp P t <;> simp only [hs] at h ⊢
 ·rename_i e;cases hT : kc0 P e with
  | none => rfl
  | some T =>
   rw [hT] at h;cases v <;> try rfl
   rename_i b m hh c;simp only at h ⊢;unfold shOf at *;cases hb : H[b]? with
   | none => simp [hb, bad] at h
   | some B => rw [hk b B rfl hb]
 ·rename_i e;cases hT : kc0 P e with
  | none => rfl
  | some T =>
   rw [hT] at h;cases v <;> try rfl
   rename_i b i o hh;simp only [Bool.and_eq_true] at h ⊢;rw [h.1.1, ky0 h.1.1 fun B hB => hk b B rfl hB]
theorem zbl9 {t : TypeId} {lo hi mx : Option AV} (h : (wH0 P H t v lo hi mx).1 = true) (hk : ∀ b B, topB v = some b → H[b]? = some B → H2[b]? = some B) : wH0 P H2 t v lo hi mx = wH0 P H t v lo hi mx := by
 cases v with
 | own b n h0 c =>
  have key : zj0 H b h0 = true → zj0 H2 b h0 = true := fun hl => ky0 hl fun B hB => hk b B rfl hB;unfold wH0 at *;cases hlo : waS9 lo with
  | none => rfl
  | some l =>
   simp only [hlo] at h ⊢;cases hs : shp P t <;> simp only [hs] at h ⊢
   rename_i e;cases hT : kc0 P e with
   | none => rfl
   | some T =>
    simp only [hT] at h ⊢;cases hh : zR0 hi n with
    | none => rfl
    | some x =>
     simp only [hh] at h ⊢;cases mx with
     | none =>
      by_cases hl0 : l = 0
      ·simp only [if_pos hl0, Bool.and_eq_true] at h ⊢;rw [h.1.1.1, key h.1.1.1]
      ·simp only [if_neg hl0, Bool.and_eq_true] at h ⊢;have he : shOf H2 b = shOf H b := by
        have h1 := h.1.1.1.1;unfold zj0 at h1;cases hb : H[b]? with
        | none => simp [shOf, hb] at h1
        | some B => simp [shOf, hb, hk b B rfl hb]
       rw [h.1.1.1.1, key h.1.1.1.1, he]
     | some y =>
      cases y <;> try rfl
      simp only [Bool.and_eq_true] at h ⊢;rw [h.1.1.1.1.2, key h.1.1.1.1.2]
 | iptr cs o =>
  unfold wH0;cases waS9 lo with
  | none => rfl
  | some l => cases shp P t <;> cases o <;> rfl
 | _ =>
  unfold wH0;cases waS9 lo with
  | none => rfl
  | some l => cases shp P t <;> rfl
end
theorem wbH9 {H H2 : List Blk} {v : AV} {cs : List AV} (h : v.cells? H = some cs) (hk : ∀ b B, topB v = some b → H[b]? = some B → H2[b]? = some B) : v.cells? H2 = some cs := by
 have key : ∀ {b n : Nat}, topB v = some b → zj0 H b n = true → zj0 H2 b n = true := fun hb hl => ky0 hl fun B hB => hk _ B hb hB;cases v with
 | own b n hh c =>
  simp only [AV.cells?] at h ⊢;by_cases hl : (AV.own b n hh c).live H = true
  ·rw [if_pos hl] at h; rw [if_pos (show (AV.own b n hh c).live H2 = true from key rfl hl)]; exact h
  ·rw [if_neg hl] at h; cases h
 | ptr b i o hh =>
  simp only [AV.cells?] at h ⊢;by_cases hl : (AV.ptr b i o hh).live H = true
  ·rw [if_pos hl] at h; rw [if_pos (show (AV.ptr b i o hh).live H2 = true from key rfl hl)]; exact h
  ·rw [if_neg hl] at h; cases h
 | lit u => cases u <;> exact h
 | _ => exact h
theorem vH0 {H H2 : List Blk} {t : TypeId} {len i : Nat} {v : AV} (h : (qm0 P H t len [(i, v)]).1 = true) (hk : ∀ b B, topB v = some b → H[b]? = some B → H2[b]? = some B) : qm0 P H2 t len [(i, v)] = qm0 P H t len [(i, v)] := by
 unfold qm0 at *;split at h
 ·split at h
  ·rename_i E hE;cases hc : v.cells? H with
   | none => simp only [zT0, hc] at h; cases h
   | some cs => simp only [zT0, hc, wbH9 hc hk]
  ·rfl
 ·rfl
theorem wbY9 {H H2 : List Blk} {v : AV} {t : TypeId} (h : (pLen P H t v).1 = true) (hk : ∀ b B, topB v = some b → H[b]? = some B → H2[b]? = some B) : pLen P H2 t v = pLen P H t v := by
 cases v with
 | own b n h0 c =>
  have key : zj0 H b h0 = true → zj0 H2 b h0 = true := fun hl => ky0 hl fun B hB => hk b B rfl hB;unfold pLen at *;cases hs : shp P t <;> simp only [hs] at h ⊢
  ·rw [h, key h]
  ·simp [qz0]
 | mp b =>
  have e : qz0 H2 (.mp b) = qz0 H (.mp b) ∨ H[b]? = none := by
   cases hb : H[b]? with
   | none => exact .inr rfl
   | some B => left; simp only [qz0, hb, hk b B rfl hb]
  unfold pLen at *;cases hs : shp P t <;> simp only [hs] at h ⊢
  rcases e with e|e
  ·rw [e]
  ·simp [qz0, e, bad] at h
 | lit u =>
  have e : qz0 H2 (.lit u) = qz0 H (.lit u) := by cases u <;> first|rfl|(rename_i m; cases m <;> rfl)
  unfold pLen;cases shp P t <;> first|rfl|(simp only [e])
 | _ => unfold pLen; cases shp P t <;> rfl
theorem vbH9 (v : Value) : topB (qT0 v).strip = none := by
 cases v <;> simp only [qT0, vA0] <;> (repeat' split) <;> rfl
theorem kbH9 {o : Op} {x : Nat} {ρ : Operand → AV} {H H2 : List Blk} (ho : rdOp o = some x) (hc : ∀ v, topB (ρ (.const v)).strip = none) (h : (zf0 P o ρ H).1 = true) (hk : ∀ b B, topB (ρ (.tmp x)).strip = some b → H[b]? = some B → H2[b]? = some B) : zf0 P o ρ H2 = zf0 P o ρ H := by
 cases o with
 | load t p =>
  cases p <;> simp only [rdOp, Option.some.injEq, reduceCtorEq] at ho
  subst ho;simp only [zf0, Bool.and_eq_true] at h ⊢;rw [xbH9 h.2 hk]
 | fieldAddr s p f =>
  cases p <;> simp only [rdOp, Option.some.injEq, reduceCtorEq] at ho
  subst ho;simp only [zf0, Bool.and_eq_true] at h ⊢;rw [vat9 h.2 hk]
 | indexAddr t p i =>
  cases p <;> simp only [rdOp, Option.some.injEq, reduceCtorEq] at ho
  subst ho;simp only [zf0, Bool.and_eq_true] at h ⊢;rw [kat9 h.2.2 hk]
 | slice t p lo hi mx =>
  cases p <;> simp only [rdOp, Option.some.injEq, reduceCtorEq] at ho
  subst ho;simp only [zf0, Bool.and_eq_true] at h ⊢;rw [zbl9 h.2 hk]
 | nilCheck p =>
  cases p <;> simp only [rdOp, Option.some.injEq, reduceCtorEq] at ho
  subst ho;simp only [zf0] at h ⊢;split at h
  ·rename_i b i o hh he;rw [Bool.and_eq_true] at h;rw [h.2, ky0 h.2 fun B hB => hk b B (by rw [he]; rfl) hB]
  ·rfl
  ·rfl
  ·cases h
 | call c =>
  obtain ⟨callee, args, argTypes⟩ := c;cases callee with
  | builtin b =>
   cases b with
   | len =>
    simp only [rdOp] at ho;split at ho
    ·rename_i x' hp;injection ho with ho; subst ho
     simp only [zf0, hp] at h ⊢;split at h
     ·rename_i x2 t1 ts e1 e2;injection e1 with e1 _
      subst e1;simp only [Bool.and_eq_true] at h;simp only [e2, wbY9 h.2 hk]
     ·cases h
    ·cases ho
   | _ => simp [rdOp] at ho
  | _ => simp [rdOp] at ho
 | buildSlice t len parts =>
  simp only [rdOp] at ho;split at ho
  ·rename_i i x' hp;injection ho with ho; subst ho
   simp only [zf0, hp, List.map_cons, List.map_nil, Bool.and_eq_true] at h ⊢;rw [vH0 h.2 hk]
  ·rename_i i v hp;simp only [zf0, hp, List.map_cons, List.map_nil, Bool.and_eq_true] at h ⊢;rw [vH0 h.2 fun b B hb _ => by rw [hc v] at hb; cases hb]
  ·cases ho
 | _ => simp [rdOp] at ho
theorem zaa9 {H : List Blk} {b b' : Nat} {B X : Blk} (hne : b' ≠ b) (h : H[b']? = some B) : (H.set b X)[b']? = some B := by rw [List.getElem?_set_ne (Ne.symm hne)]; exact h
theorem xaa9 {H : List Blk} {b' : Nat} {B X : Blk} (h : H[b']? = some B) : (H ++ [X])[b']? = some B := by
 rw [List.getElem?_append_left (List.getElem?_eq_some_iff.1 h).1]; exact h
theorem xbl9 {H : List Blk} {t : TypeId} {p x : AV} {b' : Nat} {B : Blk} (h : (xX0 P H t p x).1 = true) (hne : topB p ≠ some b') (hb : H[b']? = some B) : (xX0 P H t p x).2.2[b']? = some B := by
 unfold xX0 at *;split at h
 ·rename_i T b i o hh cs h1 h2;split at h
  ·rename_i s bt es h3;exact zaa9 (fun e => hne (by rw [e]; rfl)) hb
  ·cases h
 ·cases h
theorem qbI9 {H : List Blk} {t : TypeId} {l c : AV} {b' : Nat} {B : Blk} (h : (vay9 P H t l c).1 = true) (hb : H[b']? = some B) : (vay9 P H t l c).2.2[b']? = some B := by
 unfold vay9 at *;split at h
 ·split at h
  ·exact xaa9 hb
  ·cases h
 ·cases h
theorem vaY9 {H : List Blk} {t t1 : TypeId} {d x : AV} {b' : Nat} {B : Blk} (h : (xu0 P H t t1 d x).1 = true) (hne : topB d ≠ some b') (hb : H[b']? = some B) : (xu0 P H t t1 d x).2.2[b']? = some B := by
 unfold xu0 at *;split at h
 ·rename_i e hsh;split at h
  ·rename_i E hE;split at h
   ·rename_i news hn;split at h
    ·rename_i b n hh c;split at h
     ·rename_i s bt es h3;have hx : b' ≠ b := fun e => hne (by rw [e]; rfl);cases c with
      | none => exact zaa9 hx hb
      | some k =>
       simp only;split
       ·exact zaa9 hx hb
       ·exact xaa9 hb
     ·cases h
    ·rename_i s es c;cases news with
     | nil => exact hb
     | cons y ys =>
      cases c with
      | none => cases h
      | some k => exact xaa9 hb
    ·cases h
   ·cases h
  ·cases h
 ·cases h
theorem kaY9 {H : List Blk} {t t1 : TypeId} {d x : AV} {b' : Nat} {B : Blk} (h : (xu0 P H t t1 d x).1 = true) (hne : topB d ≠ some b') (hnr : topB (xu0 P H t t1 d x).2.1 ≠ some b') (hb : (xu0 P H t t1 d x).2.2[b']? = some B) : H[b']? = some B := by
 have hset : ∀ (b : Nat) (X : Blk), b' ≠ b → (H.set b X)[b']? = some B → H[b']? = some B := fun b X hn hx => by rwa [List.getElem?_set_ne (Ne.symm hn)] at hx
 have hpush : ∀ X : Blk, b' ≠ H.length → (H ++ [X])[b']? = some B → H[b']? = some B := fun X hn hx => by
  have hl := (List.getElem?_eq_some_iff.1 hx).1;rw [List.length_append, List.length_singleton] at hl
  rwa [List.getElem?_append_left (by omega)] at hx
 unfold xu0 at *;split at h
 ·rename_i e hsh;split at h
  ·rename_i E hE;split at h
   ·rename_i news hn;split at h
    ·rename_i b n hh c;split at h
     ·rename_i s bt es h3;have hx : b' ≠ b := fun e => hne (by rw [e]; rfl);cases c with
      | none => simp only [hsh, hE, hn, h3] at hb; exact hset _ _ hx hb
      | some k =>
       simp only [hsh, hE, hn, h3] at hb hnr;split at hb
       ·exact hset _ _ hx hb
       ·rename_i hk;rw [if_neg hk] at hnr;exact hpush _ (fun e => hnr (by rw [e]; rfl)) hb
     ·cases h
    ·rename_i s es c;cases news with
     | nil => simp only [hsh, hE, hn] at hb; exact hb
     | cons y ys =>
      cases c with
      | none => cases h
      | some k =>
       simp only [hsh, hE, hn] at hb hnr;exact hpush _ (fun e => hnr (by rw [e]; rfl)) hb
    ·cases h
   ·cases h
  ·cases h
 ·cases h
theorem zbI9 {H : List Blk} {t : TypeId} {d x : AV} {b' : Nat} {B : Blk} (h : (qaJ9 P H t d x).1 = true) (hne : topB d ≠ some b') (hb : H[b']? = some B) : (qaJ9 P H t d x).2.2[b']? = some B := by
 unfold qaJ9 at *;split at h
 ·split at h
  ·rename_i e hsh E hE;split at h
   ·rename_i news b i n hh hs hd;split at h
    ·rename_i s bt es h3;have hx : b' ≠ b := fun e => hne (by rw [e]; cases d <;> simp [waq9] at hd <;> simp [topB, hd]);exact zaa9 hx hb
    ·cases h
   ·cases h
  ·cases h
 ·cases h
theorem wbl9 {H : List Blk} {t : TypeId} {b' : Nat} {B : Blk} (h : (vR0 P H t).1 = true) (hb : H[b']? = some B) : (vR0 P H t).2.2[b']? = some B := by
 unfold vR0 at *;split at h
 ·exact xaa9 hb
 ·cases h
theorem xbI9 {o : Op} {y : Option Nat} {ρ : Operand → AV} {H : List Blk} {b' : Nat} {B : Blk} (ho : qaa9 o = some y) (h : (xg0 P o ρ H).1 = true) (hne : ∀ t, y = some t → topB (ρ (.tmp t)).strip ≠ some b') (hb : H[b']? = some B) : (xg0 P o ρ H).2.2[b']? = some B := by
 unfold qaa9 at ho;split at ho
 ·injection ho with ho; subst ho
  simp only [xg0, Bool.and_eq_true] at h ⊢;exact xbl9 h.2.2 (hne _ rfl) hb
 ·injection ho with ho; subst ho
  simp only [xg0, Bool.and_eq_true] at h ⊢;exact qbI9 h.2.2 hb
 ·rename_i args argTypes;split at ho
  ·rename_i t x ha;injection ho with ho; subst ho
   simp only [xg0, ha] at h ⊢;split at h
   ·rename_i d x' t1 t2 e1 e2;injection e1 with e1 e3; injection e3 with e3 _
    subst e1; subst e3;simp only [e2, Bool.and_eq_true] at h ⊢;exact vaY9 h.2.2 (hne _ rfl) hb
   ·cases h
  ·cases ho
 ·rename_i args argTypes;split at ho
  ·rename_i t x ha;injection ho with ho; subst ho
   simp only [xg0, ha] at h ⊢;split at h
   ·rename_i d x' t1 t2 e1 e2;injection e1 with e1 e3; injection e3 with e3 _
    subst e1; subst e3;simp only [e2, Bool.and_eq_true] at h ⊢;exact zbI9 h.2.2 (hne _ rfl) hb
   ·cases h
  ·cases ho
 ·simp [xg0, bad3] at h
 ·injection ho with ho; subst ho
  simp only [xg0] at h ⊢;exact wbl9 h hb
 ·cases ho
def kJ0 : Op → Bool
 | .call { callee := .builtin .append, .. } => true
 | _ => false
theorem zbv9 {o : Op} (h : isMk o = true) : kJ0 o = false := by
 cases o <;> first|rfl|(simp [isMk] at h)
theorem vbY9 {o : Op} {y : Option Nat} (ha : kJ0 o = true) (h : qaa9 o = some y) : ∃ t, y = some t := by
 unfold qaa9 at h;split at h
 ·simp [kJ0] at ha
 ·simp [kJ0] at ha
 ·split at h
  ·injection h with h; exact ⟨_, h.symm⟩
  ·cases h
 ·simp [kJ0] at ha
 ·simp [kJ0] at ha
 ·simp [kJ0] at ha
 ·cases h
theorem wbI9 {o : Op} {y : Nat} {ρ : Operand → AV} {H : List Blk} {b' : Nat} {B : Blk} (ha : kJ0 o = true) (ho : qaa9 o = some (some y)) (h : (xg0 P o ρ H).1 = true) (hne : topB (ρ (.tmp y)).strip ≠ some b') (hnr : topB (xg0 P o ρ H).2.1.strip ≠ some b') (hb : (xg0 P o ρ H).2.2[b']? = some B) : H[b']? = some B := by
 unfold qaa9 at ho;split at ho
 ·simp [kJ0] at ha
 ·simp [kJ0] at ha
 ·rename_i args argTypes;split at ho
  ·rename_i t x hargs;injection ho with ho; injection ho with ho; subst ho
   simp only [xg0, hargs] at h hb hnr;split at h
   ·rename_i d x' t1 t2 e1 e2;injection e1 with e1 e3; injection e3 with e3 _
    subst e1; subst e3;simp only [e2, Bool.and_eq_true] at h hb hnr;have key : ∀ v : AV, topB v = some b' → topB v.strip = some b' := fun v hv => by
     cases v <;> first|exact hv|(simp [topB] at hv)
    exact kaY9 h.2.2 hne (fun q => hnr (key _ q)) hb
   ·cases h
  ·cases ho
 ·simp [kJ0] at ha
 ·simp [kJ0] at ha
 ·simp [kJ0] at ha
 ·cases ho
def vcw9 (o : Oper) : Nat := match o.dst with
 | some d => d
 | none => match o.op with|.store _ (.tmp y) _ => y|_ => 0
def val9 (rs : List (Nat × Nat)) (o : Oper) : Bool := match o.dst, o.guard, rdOp o.op with
 | some d, none, some x => rs.contains (d, x)
 | _, _, _ => false
def waa9 (es : List (Nat × Option Nat)) (o : Oper) : Bool := match qaa9 o.op with
 | some y => es.contains (vcw9 o, y) && o.guard.isNone
 | none => false
def vbl9 (es : List (Nat × Option Nat)) (o : Oper) : Bool := waa9 es o && kJ0 o.op && (match o.dst with|some d => es.any fun y => y.2 == some d|none => false)
def eFlagM (es : List (Nat × Option Nat)) (o : Oper) : Bool := isMk o.op && o.guard.isNone && (match o.dst with|some d => es.contains (d, some d)|none => false)
theorem kbl9 {es : List (Nat × Option Nat)} {o : Oper} (h : eFlagM es o = true) : ∃ d, isMk o.op = true ∧ o.guard = none ∧ o.dst = some d ∧ (d, some d) ∈ es := by
 unfold eFlagM at h;simp only [Bool.and_eq_true, Option.isNone_iff_eq_none] at h;obtain ⟨⟨h1, h2⟩, h3⟩ := h;split at h3
 ·rename_i d hd; exact ⟨d, h1, h2, hd, by simpa using h3⟩
 ·cases h3
theorem kbY9 {N : Nat → Prop} {o : Op} {ρ : Operand → AV} {H H' : List Blk} {b : Nat} {r : AV} (h : MkAt P o ρ H b r H') (hk : zbH9 N H H') : ¬ N b := fun hn => by
 unfold MkAt at h;cases o with
 | makeSlice t l c =>
  simp only [wQ0, Bool.and_eq_true] at h;obtain ⟨⟨_, h2⟩, _, h4⟩ := h;obtain ⟨s, e, es, n, cc, q1, q2, q3, _⟩ := xw0 h2;rw [q3] at h4;have := hk b _ hn q1;rw [h4, List.getElem?_set_self (List.getElem?_eq_some_iff.1 q1).1] at this;injection this with this; injection this with _ _ this
  exact q2 this
 | _ => exact absurd h.1 (by simp [wQ0, bad3])
theorem zag9 {N : Nat → Prop} {o : Op} {ρ : Operand → AV} {H H' : List Blk} {b : Nat} {r : AV} (h : MkAt P o ρ H b r H') (hn : ¬ N b) : zbH9 N H H' := fun b' B hb hB => by
 unfold MkAt at h;cases o with
 | makeSlice t l c =>
  simp only [wQ0, Bool.and_eq_true] at h;obtain ⟨⟨_, h2⟩, _, h4⟩ := h;obtain ⟨s, e, es, n, cc, q1, q2, q3, _⟩ := xw0 h2;rw [q3] at h4;rw [h4];exact zaa9 (fun e => hn (by rw [← e]; exact hb)) hB
 | _ => exact absurd h.1 (by simp [wQ0, bad3])
theorem kcw9 {o : Op} {ρ : Operand → AV} {H H' : List Blk} {b : Nat} {r : AV} (h : MkAt P o ρ H b r H') : topB r.strip = some b := by
 unfold MkAt at h;cases o with
 | makeSlice t l c =>
  simp only [wQ0, Bool.and_eq_true] at h;obtain ⟨⟨_, h2⟩, h3, _⟩ := h;obtain ⟨s, e, es, n, cc, q1, q2, q3, _⟩ := xw0 h2;rw [h3, q3]; rfl
 | _ => exact absurd h.1 (by simp [wQ0, bad3])
theorem xbv9 {ops : List Oper} {o : Oper} {a : List AV} {v : AV} {d : Option Tmp} (h : ∀ t, d = some t → t ∉ o.looksAt ops.toArray) {x : Operand} (hx : x ∈ o.op.operands) : ev G (putA a d v) x = ev G a x := vbP9 fun t ht hxt => h t ht (by
  subst hxt;exact List.mem_append_left _ (List.mem_filterMap.2 ⟨.tmp t, by simpa using hx, rfl⟩))
theorem vaa9 {o : Oper} (h : mFlag q o = true) : effD q o.op = true ∧ isMk o.op = true ∧ o.guard = none ∧ zB0 o.op = false ∧ rdOp o.op = none := by
 simp only [mFlag, Bool.and_eq_true, Bool.not_eq_true', Option.isNone_iff_eq_none] at h;obtain ⟨⟨⟨h1, h2⟩, h3⟩, h4⟩ := h;cases ho : o.op <;> rw [ho] at h3 <;> first|(exact Bool.noConfusion h3)|skip
 exact ⟨by simp [effD, wA0, h1], h3, h4, rfl, rfl⟩
theorem xO0 {rs : List (Nat × Nat)} {o : Oper} (h : val9 rs o = true) : ∃ d x, o.dst = some d ∧ o.guard = none ∧ rdOp o.op = some x ∧ (d, x) ∈ rs := by
 unfold val9 at h;split at h
 ·rename_i d x h1 h2 h3; exact ⟨d, x, h1, h2, h3, by simpa using h⟩
 ·cases h
theorem kaE9 {es : List (Nat × Option Nat)} {o : Oper} (h : waa9 es o = true) : ∃ y, qaa9 o.op = some y ∧ o.guard = none ∧ (vcw9 o, y) ∈ es := by
 unfold waa9 at h;split at h
 ·rename_i y h1;simp only [Bool.and_eq_true, Option.isNone_iff_eq_none] at h;exact ⟨y, h1, h.2, by simpa using h.1⟩
 ·cases h
theorem qaZ9 {c : Call} {f : Operand} (h : c.callee = .value f) : rdOp (.call c) = none := by
 obtain ⟨callee, args, argTypes⟩ := c;cases h
 rfl
theorem kaa9 {o : Op} {x : Nat} (h : rdOp o = some x) : effD q o = false := by
 cases o with
 | call c =>
  obtain ⟨callee, args, argTypes⟩ := c;cases callee with
  | builtin b => cases b <;> first|rfl|(simp [rdOp] at h; done)
  | _ => simp [rdOp] at h
 | _ => first|(simp [rdOp] at h; done)|rfl
theorem qbZ9 {o : Op} {x : Nat} (h : rdOp o = some x) : isMk o = false := by
 cases o with
 | call c =>
  obtain ⟨callee, args, argTypes⟩ := c;cases callee with
  | builtin b => cases b <;> first|rfl|(simp [rdOp] at h; done)
  | _ => simp [rdOp] at h
 | _ => first|(simp [rdOp] at h; done)|rfl
theorem qcx9 {o : Op} {x : Nat} (h : rdOp o = some x) : wA0 o = false := by
 cases o with
 | call c =>
  obtain ⟨callee, args, argTypes⟩ := c;cases callee with
  | builtin b => cases b <;> first|rfl|(simp [rdOp] at h; done)
  | _ => simp [rdOp] at h
 | _ => first|(simp [rdOp] at h; done)|rfl
section
variable {ops : List Oper} {md : Region.Mode} {rs : List (Nat × Nat)} {es : List (Nat × Option Nat)} {N : Nat → Prop} {K : List AV → List Blk → Prop}
def qbm9 (q : Operand → Bool) (o : Oper) : Bool := pcF q && isVC o.op && o.guard.isNone && !effD q o.op
theorem xag9 {o : Oper} (h : qbm9 q o = true) : pcF q = true ∧ isVC o.op = true ∧ o.guard = none ∧ effD q o.op = false := by
 simp only [qbm9, Bool.and_eq_true, Option.isNone_iff_eq_none, Bool.not_eq_true'] at h;exact ⟨h.1.1.1, h.1.1.2, h.1.2, h.2⟩
def zaZ9 (P : Program) (G : Glob) (q : Operand → Bool) (ops : List Oper) (rs : List (Nat × Nat)) (es : List (Nat × Option Nat)) (N : Nat → Prop) (o : Oper) (a : List AV) (H : List Blk) (r : AV) (H' : List Blk) : Prop :=
 vaU9 P G q ops o a H r H' ∧ (val9 rs o = true → ∀ H2, zbH9 N H H2 → kn0 P G ops o a H2 r H2) ∧ ((waa9 es o || eFlagM es o) = true → zbH9 N H H') ∧ (mFlag q o = true → ∃ b, MkAt P o.op (ev G a) H b r H') ∧ (vbl9 es o = true → zbH9 N H' H) ∧ (qbm9 q o = true → ∀ H2, kn0 P G ops o a H2 r H2)
def zbZ9 (P : Program) (G : Glob) (q : Operand → Bool) (ops : List Oper) (rs : List (Nat × Nat)) (es : List (Nat × Option Nat)) (N : Nat → Prop) (md : Region.Mode) (K : List AV → List Blk → Prop) : Nat → Array Bool → List AV → List Blk → Prop
 | 0, listed, a, H => Region.ready md ops.toArray listed = [] ∧ K a H
 | fuel + 1, listed, a, H => (Region.ready md ops.toArray listed = [] → K a H) ∧
   ∀ i ∈ Region.ready md ops.toArray listed, ∃ o, ops[i]? = some o ∧ ∃ r H', zaZ9 P G q ops rs es N o a H r H' ∧ zbZ9 P G q ops rs es N md K fuel (listed.setIfInBounds i true) (putA a o.dst r) H'
theorem qaF9 : ∀ (fuel : Nat) (listed : Array Bool) (a : List AV) (H : List Blk), zbZ9 P G q ops rs es N md K fuel listed a H → AAny P G q ops md K fuel listed a H
 | 0, _, _, _, h => h
 | fuel + 1, _, _, _, h => ⟨h.1, fun i hi => by
  obtain ⟨o, ho, r, H', hs, hA⟩ := h.2 i hi;exact ⟨o, ho, r, H', hs.1, qaF9 fuel _ _ _ hA⟩⟩
theorem zbm9 {i : Nat} {oi : Oper} {r : AV} {T : Nat} (hT : kae9 md ops T) (hi256 : i < 256) (hi : ops[i]? = some oi) :
  ∀ (fuel : Nat) (listed : Array Bool) (a : List AV) (H H' : List Blk), kR0 md ops listed →
   (∀ j oj, ops[j]? = some oj → j ≠ i → listed.getD j true = false → T.testBit (j * 256 + i) = true ∨ ((vbi9 q oi.op oj.op = true ∨ (val9 rs oi = true ∧ (waa9 es oj || eFlagM es oj) = true) ∨ (mFlag q oi = true ∧ mFlag q oj = true) ∨ (vbl9 es oi = true ∧ val9 rs oj = true) ∨ qbm9 q oi = true ∨ qbm9 q oj = true) ∧ oi.apart ops.toArray oj = true)) →
   i ∈ Region.ready md ops.toArray listed → zaZ9 P G q ops rs es N oi a H r H' → zbZ9 P G q ops rs es N md K fuel (listed.setIfInBounds i true) (putA a oi.dst r) H' → zbZ9 P G q ops rs es N md K (fuel + 1) listed a H := by
 intro fuel;induction fuel with
 | zero =>
  intro listed a H H' hc hfree hr hs hA;refine ⟨fun h => (by rw [h] at hr; cases hr), fun j hj => ?_⟩;by_cases hji : j = i
  ·subst hji; exact ⟨oi, hi, r, H', hs, hA⟩
  ·have := ready_mono hj hji;rw [hA.1] at this;cases this
 | succ fuel ih =>
  intro listed a H H' hc hfree hr hs hA;refine ⟨fun h => (by rw [h] at hr; cases hr), fun j hj => ?_⟩;by_cases hji : j = i
  ·subst hji; exact ⟨oi, hi, r, H', hs, hA⟩
  ·obtain ⟨hjun, oj', hoj', hall⟩ := mem_ready.1 hj;have hoj : ops[j]? = some oj' := by simpa using hoj'
   rcases hfree j oj' hoj hji hjun with hre|⟨hsw, hap⟩
   ·exact absurd (var9 hT hc hi256 hj hre) (zaD9 (mem_ready.1 hr).1)
   ·obtain ⟨oj, hoj2, rj, Hj, hsj, hAj⟩ := hA.2 j (ready_mono hj hji);rw [hoj] at hoj2; injection hoj2 with hoj2; subst hoj2
    obtain ⟨a1, a2, a3⟩ := Oper.apart_spec hap;obtain ⟨⟨s1, s2⟩, s3, s4, s5, s6, s7⟩ := hs;obtain ⟨⟨t1, t2⟩, t3, t4, t5, t6, t7⟩ := hsj;have noE : ∀ {o : Oper} {C : Prop}, effD q o.op = false → mFlag q o = true → C := fun {o} {C} e f => by rw [(vaa9 f).1] at e; cases e
    have noH : ∀ {o : Oper} {C : Prop}, zB0 o.op = true → mFlag q o = true → C := fun {o} {C} e f => by rw [(vaa9 f).2.2.2.1] at e; cases e
    have cgj : ∀ {Hx Hy : List Blk} {b : Nat}, MkAt P oj'.op (ev G (putA a oi.dst r)) Hx b rj Hy → MkAt P oj'.op (ev G a) Hx b rj Hy := fun h => vae9 (fun x hx => xbv9 a1 hx) h;have cgi : ∀ {Hx Hy : List Blk} {b : Nat}, MkAt P oi.op (ev G a) Hx b r Hy → MkAt P oi.op (ev G (putA a oj'.dst rj)) Hx b r Hy := fun h => vae9 (fun x hx => (xbv9 a3 hx).symm) h;have hid : ∀ H : List Blk, zbH9 N H H := fun H b B _ h => h;have key : ∃ Hm, zaZ9 P G q ops rs es N oj' a H rj Hm ∧ zaZ9 P G q ops rs es N oi (putA a oj'.dst rj) Hm r Hj := by
     rcases hsw with hsw|⟨hfr, hfe⟩|⟨hm1, hm2⟩|⟨hbe, hbr⟩|hci|hcj
     ·simp only [vbi9, Bool.or_eq_true, Bool.and_eq_true, Bool.not_eq_true'] at hsw;rcases hsw with (⟨p1, p2⟩|hp)|hp
      ·have e1 : H' = H := s2 p1;subst e1;have e2 : Hj = H' := t2 p2;subst e2;exact ⟨Hj, ⟨⟨(qc0 a1).1 t1, fun _ => rfl⟩, fun h H2 k => (qc0 a1).1 (t3 h H2 k), fun _ => hid _, noE p2, fun _ => hid _, fun h H2 => (qc0 a1).1 (t7 h H2)⟩, ⟨⟨(qc0 a3).2 s1, fun _ => rfl⟩, fun h H2 k => (qc0 a3).2 (s3 h H2 k), fun _ => hid _, noE p1, fun _ => hid _, fun h H2 => (qc0 a3).2 (s7 h H2)⟩⟩
      ·obtain ⟨e1, qq⟩ := wv0 hp s1;subst e1;exact ⟨Hj, ⟨⟨(qc0 a1).1 t1, t2⟩, fun h H2 k => (qc0 a1).1 (t3 h H2 k), t4, fun h => (t5 h).imp fun _ w => cgj w, t6, fun h H2 => (qc0 a1).1 (t7 h H2)⟩, ⟨⟨(qc0 a3).2 (qq Hj), fun _ => rfl⟩, fun h H2 k => (qc0 a3).2 (qq H2), fun _ => hid _, noH hp, fun _ => hid _, fun h H2 => (qc0 a3).2 (s7 h H2)⟩⟩
      ·obtain ⟨e1, qq⟩ := wv0 hp t1;subst e1;exact ⟨H, ⟨⟨(qc0 a1).1 (qq H), fun _ => rfl⟩, fun h H2 k => (qc0 a1).1 (qq H2), fun _ => hid _, noH hp, fun _ => hid _, fun h H2 => (qc0 a1).1 (t7 h H2)⟩, ⟨⟨(qc0 a3).2 s1, s2⟩, fun h H2 k => (qc0 a3).2 (s3 h H2 k), s4, fun h => (s5 h).imp fun _ w => cgi w, s6, fun h H2 => (qc0 a3).2 (s7 h H2)⟩⟩
     ·obtain ⟨d, x, f1, f2, f3, f4⟩ := xO0 hfr;have e1 : H' = H := s2 (kaa9 f3);subst e1;have hk := t4 hfe;exact ⟨Hj, ⟨⟨(qc0 a1).1 t1, t2⟩, fun h H2 k => (qc0 a1).1 (t3 h H2 k), t4, fun h => (t5 h).imp fun _ w => cgj w, t6, fun h H2 => (qc0 a1).1 (t7 h H2)⟩, ⟨⟨(qc0 a3).2 (s3 hfr Hj hk), fun _ => rfl⟩, fun h H2 k => (qc0 a3).2 (s3 hfr H2 fun b B hb hB => k b B hb (hk b B hb hB)), fun _ => hid _, noE (kaa9 f3), fun _ => hid _, fun h H2 => (qc0 a3).2 (s7 h H2)⟩⟩
     ·obtain ⟨b1, w1⟩ := s5 hm1;obtain ⟨b2, w2⟩ := t5 hm2;obtain ⟨Hm, z2, z1⟩ := xbP9 w1 (cgj w2);have z1' := cgi z1;obtain ⟨i1, i2, i3, i4, i5⟩ := vaa9 hm1;obtain ⟨j1, j2, j3, j4, j5⟩ := vaa9 hm2;have st1 : ∀ {o : Oper} {ax : List AV} {Hx Hy : List Blk} {b : Nat} {rx : AV}, isMk o.op = true → o.guard = none → MkAt P o.op (ev G ax) Hx b rx Hy → kn0 P G ops o ax Hx rx Hy := fun e1 e2 w => by
       unfold kn0; rw [e2]; exact .mkat e1 _ _ _ w
      have noB : ∀ {o : Oper} {C : Prop}, isMk o.op = true → vbl9 es o = true → C := fun e f => by
       simp only [vbl9, zbv9 e, Bool.and_false, Bool.false_and] at f;cases f
      have noR : ∀ {o : Oper} {C : Prop}, rdOp o.op = none → val9 rs o = true → C := fun e f => by
       obtain ⟨_, _, _, _, f3, _⟩ := xO0 f;rw [e] at f3; cases f3
      refine ⟨Hm, ⟨⟨st1 j2 j3 z2, fun e => (by rw [j1] at e; cases e)⟩, noR j5, fun h => zag9 z2 (kbY9 w2 (t4 h)), fun _ => ⟨b2, z2⟩, noB j2, fun h H2 => (qc0 a1).1 (t7 h H2)⟩, ⟨⟨st1 i2 i3 z1', fun e => (by rw [i1] at e; cases e)⟩, noR i5, fun h => zag9 z1' (kbY9 w1 (s4 h)), fun _ => ⟨b1, z1'⟩, noB i2, fun h H2 => (qc0 a3).2 (s7 h H2)⟩⟩
     ·obtain ⟨d, x, f1, f2, f3, f4⟩ := xO0 hbr;have e2 : Hj = H' := t2 (kaa9 f3);subst e2;have hk := s6 hbe;exact ⟨H, ⟨⟨(qc0 a1).1 (t3 hbr H hk), fun _ => rfl⟩, fun h H2 k => (qc0 a1).1 (t3 h H2 fun b B hb hB => k b B hb (hk b B hb hB)), fun _ => hid _, noE (kaa9 f3), fun _ => hid _, fun h H2 => (qc0 a1).1 (t7 h H2)⟩, ⟨⟨(qc0 a3).2 s1, s2⟩, fun h H2 k => (qc0 a3).2 (s3 h H2 k), s4, fun h => (s5 h).imp fun _ w => cgi w, s6, fun h H2 => (qc0 a3).2 (s7 h H2)⟩⟩
     ·obtain ⟨c1, c2, c3, c4⟩ := xag9 hci;have e1 : H' = H := s2 c4;subst e1;exact ⟨Hj, ⟨⟨(qc0 a1).1 t1, t2⟩, fun h H2 k => (qc0 a1).1 (t3 h H2 k), t4, fun h => (t5 h).imp fun _ w => cgj w, t6, fun h H2 => (qc0 a1).1 (t7 h H2)⟩, ⟨⟨(qc0 a3).2 (s7 hci Hj), fun _ => rfl⟩, fun h H2 k => (qc0 a3).2 (s7 hci H2), fun _ => hid _, noE c4, fun _ => hid _, fun h H2 => (qc0 a3).2 (s7 h H2)⟩⟩
     ·obtain ⟨c1, c2, c3, c4⟩ := xag9 hcj;have e2 : Hj = H' := t2 c4;subst e2;exact ⟨H, ⟨⟨(qc0 a1).1 (t7 hcj H), fun _ => rfl⟩, fun h H2 k => (qc0 a1).1 (t7 hcj H2), fun _ => hid _, noE c4, fun _ => hid _, fun h H2 => (qc0 a1).1 (t7 h H2)⟩, ⟨⟨(qc0 a3).2 s1, s2⟩, fun h H2 k => (qc0 a3).2 (s3 h H2 k), s4, fun h => (s5 h).imp fun _ w => cgi w, s6, fun h H2 => (qc0 a3).2 (s7 h H2)⟩⟩
    obtain ⟨Hm, hsj', hsi'⟩ := key;refine ⟨oj', hoj, rj, Hm, hsj', ?_⟩;refine ih (listed.setIfInBounds j true) _ _ _ (xD0 hc hj) (fun k ok hk hki hun => ?_) (ready_mono hr (Ne.symm hji)) hsi' ?_
    ·refine hfree k ok hk hki ?_;by_cases hjk : j = k
     ·subst hjk; exact hjun
     ·rw [getD_set_ne true hjk] at hun; exact hun
    ·rw [Array.setIfInBounds_comm _ _ hji, ← qaU9 a r rj a2];exact hAj
def lexN (q : Operand → Bool) (rs : List (Nat × Nat)) (es : List (Nat × Option Nat)) (md : Region.Mode) (ops : Array Oper) (T : Nat) : Nat → Nat → Array Bool → Bool
 | 0, _, listed => (Region.ready md ops listed).isEmpty
 | n + 1, k, listed => decide (k < 256) && (Region.ready md ops listed).contains k &&
   ((List.range ops.size).all fun j => j == k || listed.getD j true || T.testBit (j * 256 + k) ||
    (match ops[k]?, ops[j]? with|some ok, some oj => (vbi9 q ok.op oj.op || (val9 rs ok && (waa9 es oj || eFlagM es oj)) || (mFlag q ok && mFlag q oj) || (vbl9 es ok && val9 rs oj) || qbm9 q ok || qbm9 q oj) && ok.apart ops oj|_, _ => false)) &&
   lexN q rs es md ops T n (k + 1) (listed.setIfInBounds k true)
def zan9 (q : Operand → Bool) (rs : List (Nat × Nat)) (es : List (Nat × Option Nat)) (ops : List Oper) : Bool :=
 match ancT .any ops 0 0 with
 | 0 => lexN q rs es .any ops.toArray 0 ops.length 0 (Array.replicate ops.length false)
 | n + 1 => lexN q rs es .any ops.toArray (n + 1) ops.length 0 (Array.replicate ops.length false)
theorem xaZ9 (h : zan9 q rs es ops = true) : ∃ T, kae9 .any ops T ∧ lexN q rs es .any ops.toArray T ops.length 0 (Array.replicate ops.length false) = true := by
 have hT : kae9 .any ops (ancT .any ops 0 0) := waJ9 ops 0 0 (fun j => by simp) fun j i _ h => by simp at h
 unfold zan9 at h;split at h
 ·rename_i h0; rw [h0] at hT; exact ⟨0, hT, h⟩
 ·rename_i n hn; rw [hn] at hT; exact ⟨n + 1, hT, h⟩
def xbZ9 (P : Program) (G : Glob) (q : Operand → Bool) (ops : List Oper) (rs : List (Nat × Nat)) (es : List (Nat × Option Nat)) (N : Nat → Prop) (K : List AV → List Blk → Prop) : List Oper → List AV → List Blk → Prop
 | [], a, H => K a H
 | o :: rest, a, H => ∃ r H', zaZ9 P G q ops rs es N o a H r H' ∧ xbZ9 P G q ops rs es N K rest (putA a o.dst r) H'
theorem zaF9 {T : Nat} (hT : kae9 md ops T) : ∀ (l : List Oper) (k : Nat) (listed : Array Bool) (a : List AV) (H : List Blk), (∀ j, l[j]? = ops[k + j]?) → lexN q rs es md ops.toArray T l.length k listed = true → kR0 md ops listed →
  xbZ9 P G q ops rs es N K l a H → zbZ9 P G q ops rs es N md K l.length listed a H
 | [], k, listed, a, H, _, hB, _, h => ⟨by simpa [lexN] using hB, h⟩
 | o :: l, k, listed, a, H, hl, hB, hc, h => by
  have h0 : ops[k]? = some o := by simpa using (hl 0).symm
  simp only [List.length_cons, lexN, Bool.and_eq_true, List.all_eq_true, List.mem_range, decide_eq_true_eq] at hB;obtain ⟨⟨⟨h256, hr⟩, hf⟩, hB'⟩ := hB;have hr' : k ∈ Region.ready md ops.toArray listed := by simpa using hr
  obtain ⟨r, H', hs, hK⟩ := h;refine zbm9 hT h256 h0 l.length listed a H H' hc (fun j oj hj hji hun => ?_) hr' hs ?_
  ·have hlt : j < ops.toArray.size := by simpa using (List.getElem?_eq_some_iff.1 hj).1
   have := hf j hlt;simp only [Bool.or_eq_true, beq_iff_eq, hji, false_or, hun, Bool.false_eq_true, List.getElem?_toArray, h0, hj, Bool.and_eq_true, Bool.not_eq_true'] at this;rcases this with q|⟨q1, q2⟩
   ·exact .inl q
   ·refine .inr ⟨?_, q2⟩;rcases q1 with ((((q|⟨q, w⟩)|q)|q)|q)|q
    ·exact .inl q
    ·exact .inr (.inl ⟨q, by simpa using w⟩)
    ·exact .inr (.inr (.inl q))
    ·exact .inr (.inr (.inr (.inl q)))
    ·exact .inr (.inr (.inr (.inr (.inl q))))
    ·exact .inr (.inr (.inr (.inr (.inr q))))
  ·exact zaF9 hT l (k + 1) _ _ _ (fun j => by have := hl (j + 1); simpa [Nat.add_assoc, Nat.add_comm 1 j] using this) hB' (xD0 hc hr') hK
def xaF9 (rs : List (Nat × Nat)) (es : List (Nat × Option Nat)) : List Oper → Bool
 | [] => true
 | o :: l => (!val9 rs o || (match rdOp o.op with|some x => (o :: l).all fun o' => o'.dst != some x|none => false)) &&
   (!waa9 es o || (match qaa9 o.op with|some (some y) => (o :: l).all fun o' => o'.dst != some y|some none => true|none => false)) && (!eFlagM es o || (match o.dst with|some d => l.all fun o' => o'.dst != some d|none => false)) && (!vbl9 es o || (match o.dst with|some d => l.all fun o' => o'.dst != some d|none => false)) && xaF9 rs es l
def zcx9 (rs : List (Nat × Nat)) (es : List (Nat × Option Nat)) (a : List AV) : Prop := ∀ x ∈ rs, ∀ y ∈ es, ∀ t, y.2 = some t → apB (getA a x.2) (getA a t) = true
theorem waM9 {a : List AV} {d : Option Tmp} {r : AV} {t : Nat} (h : d ≠ some t) : getA (putA a d r) t = getA a t := by
 cases d with
 | none => rfl
 | some d =>
  have : d ≠ t := fun e => h (by rw [e]);simp [getA, putA, List.getD_eq_getElem?_getD, List.getElem?_set, this]
theorem xcx9 (a : List AV) (d : Option Tmp) (r : AV) : (putA a d r).length = a.length := by cases d <;> simp [putA]
theorem wbv9 : ∀ (l : List Oper) (a : List AV) (H : List Blk), xaF9 rs es l = true → (l.all fun o => !(waa9 es o && isVC o.op) || kpF q) = true → (l.all fun o => !((waa9 es o && isMk o.op && atF q) || (eFlagM es o && !mFlag q o))) = true → (∀ y ∈ es, y.1 < a.length) → ChainK P G q ops (fun a H => K a H ∧ zcx9 rs es a) l a H →
  ∃ af, zcx9 rs es af ∧ (∀ t, (l.all fun o => o.dst != some t) = true → getA af t = getA a t) ∧ xbZ9 P G q ops rs es (fun b => ∃ x ∈ rs, topB (getA af x.2).strip = some b) K l a H
 | [], a, H, _, _, _, _, h => ⟨a, h.2, fun _ _ => rfl, h.1⟩
 | o :: l, a, H, hl, hv, hx0, hlen, h => by
  obtain ⟨r, H', ⟨hs, hkk, hmm, hmn, hpp⟩, hc⟩ := h;simp only [xaF9, Bool.and_eq_true] at hl;obtain ⟨⟨⟨⟨hl1, hl2⟩, hlm⟩, hlb⟩, hl3⟩ := hl;rw [List.all_cons, Bool.and_eq_true] at hv hx0;obtain ⟨af, hf, hu, hN⟩ := wbv9 l _ _ hl3 hv.2 hx0.2 (fun y hy => by rw [xcx9]; exact hlen y hy) hc;have hu' : ∀ t, ((o :: l).all fun o => o.dst != some t) = true → getA af t = getA a t := fun t ht => by
   simp only [List.all_cons, Bool.and_eq_true, bne_iff_ne] at ht;rw [hu t ht.2, waM9 ht.1]
  refine ⟨af, hf, hu', r, H', ⟨hs, fun hfl => ?_, fun hfl => ?_, hmm, fun hfl => ?_, fun hfl => (by obtain ⟨c1, c2, c3, c4⟩ := xag9 hfl; exact hpp c1 c3 c2)⟩, hN⟩
  ·obtain ⟨d, x, f1, f2, f3, f4⟩ := xO0 hfl;rw [hfl, f3] at hl1;simp only [Bool.not_true, Bool.false_or] at hl1;have hx := hu' x hl1;intro H2 hk;have h1 := hs.1;unfold kn0 at h1 ⊢;rw [f2] at h1 ⊢;simp only at h1 ⊢;cases h1 with
   | pure h1 =>
    have e := kbH9 (H2 := H2) f3 (fun c => vbH9 c) h1 (fun b B hb hB => hk b B ⟨(d, x), f4, by rw [hx]; exact hb⟩ hB);rw [← e] at h1 ⊢;exact .pure h1
   | eff he h1 => rw [qcx9 f3] at he; cases he
   | made he r h1 => rw [qbZ9 f3] at he; cases he
   | mkat he b r H' h1 => rw [qbZ9 f3] at he; cases he
   | call c f g cap ho => rw [ho, qaZ9 ‹_›] at f3; cases f3
   | yield c f b ho => rw [ho, qaZ9 ‹_›] at f3; cases f3
  ·have hx1 := hx0.1;by_cases hfM : eFlagM es o = true
   ·obtain ⟨d, g1, g2, g3, g4⟩ := kbl9 hfM;have hmF : mFlag q o = true := by
     rw [hfM] at hx1;cases w : mFlag q o with
     | true => rfl
     | false => rw [w] at hx1; simp at hx1
    obtain ⟨b0, hb0⟩ := hmm hmF;refine zag9 hb0 ?_;rintro ⟨x, hx, hxb⟩;rw [hfM, g3] at hlm;simp only [Bool.not_true, Bool.false_or] at hlm;have hlt : d < a.length := hlen _ g4;have hra := hu d hlm;have := hf x hx _ g4 d rfl;unfold apB at this;rw [hxb, hra, g3] at this;have e : getA (putA a (some d) r) d = r := by simp [getA, putA, hlt]
    rw [e, kcw9 hb0] at this;simp at this
   have hfl : waa9 es o = true := by
    rw [Bool.or_eq_true] at hfl;exact hfl.resolve_right hfM
   obtain ⟨y, f1, f2, f3⟩ := kaE9 hfl;rw [hfl, f1] at hl2;intro b B hb hB;by_cases hmk : isMk o.op = true
   ·have hat : atF q = false := by
     rw [hfl, hmk] at hx1;cases w : atF q with
     | false => rfl
     | true => rw [w] at hx1; simp at hx1
    obtain ⟨E, rfl⟩ := hmn hat hmk f2;rw [List.getElem?_append_left (List.getElem?_eq_some_iff.1 hB).1]; exact hB
   obtain ⟨x, hx, hxb⟩ := hb;have h1 := hs.1;unfold kn0 at h1;rw [f2] at h1;simp only at h1;cases h1 with
   | pure h1 => exact hB
   | made he r h1 => exact hB
   | mkat he b' r H' h1 => exact absurd he hmk
   | eff he h1 =>
    refine xbI9 f1 h1 (fun t ht hbt => ?_) hB;subst ht;simp only [Bool.not_true, Bool.false_or] at hl2;have hy := hu' t hl2;have := hf x hx _ f3 t rfl;unfold apB at this;rw [hxb, hy] at this;have hbt : topB (getA a t).strip = some b := hbt;rw [hbt] at this;simp at this
   | call c f g cap ho hcal =>
    have hvc : isVC o.op = true := by rw [ho]; obtain ⟨c1, c2, c3⟩ := c; simp only at hcal; subst hcal; rfl
    have hv1 := hv.1;rw [hfl, hvc] at hv1;obtain ⟨E, rfl⟩ := hkk (by simpa using hv1) f2 hvc;rw [List.getElem?_append_left (List.getElem?_eq_some_iff.1 hB).1]; exact hB
   | yield c f b' ho hcal =>
    have hvc : isVC o.op = true := by rw [ho]; obtain ⟨c1, c2, c3⟩ := c; simp only at hcal; subst hcal; rfl
    have hv1 := hv.1;rw [hfl, hvc] at hv1;obtain ⟨E, rfl⟩ := hkk (by simpa using hv1) f2 hvc;rw [List.getElem?_append_left (List.getElem?_eq_some_iff.1 hB).1]; exact hB
  ·rw [hfl] at hlb;simp only [vbl9, Bool.and_eq_true] at hfl;obtain ⟨⟨hfe, hap⟩, hd⟩ := hfl;obtain ⟨y, f1, f2, f3⟩ := kaE9 hfe;rw [hfe, f1] at hl2;cases hdo : o.dst with
   | none => rw [hdo] at hd; cases hd
   | some d =>
    rw [hdo] at hd hlb;simp only [Bool.not_true, Bool.false_or] at hlb;have hkd : vcw9 o = d := by unfold vcw9; rw [hdo]
    rw [hkd] at f3;have hlt : d < a.length := hlen _ f3;rw [List.any_eq_true] at hd;obtain ⟨y2, hy2, hy3⟩ := hd;have hy3 : y2.2 = some d := by simpa using hy3
    have hra := hu d hlb;rw [hdo] at hra;have e : getA (putA a (some d) r) d = r := by simp [getA, putA, hlt]
    rw [e] at hra;rintro b B ⟨x, hx, hxb⟩ hB;have h1 := hs.1;unfold kn0 at h1;rw [f2] at h1;simp only at h1;have c2 := hf x hx y2 hy2 d hy3;unfold apB at c2;rw [hxb, hra] at c2;obtain ⟨t, rfl⟩ := vbY9 hap f1;simp only [Bool.not_true, Bool.false_or] at hl2;have hy := hu' t hl2;have c1 := hf x hx _ f3 t rfl;unfold apB at c1;rw [hxb, hy] at c1;have hEA : wA0 o.op = true := by
     cases w : wA0 o.op with
     | true => rfl
     | false =>
      exfalso;generalize o.op = oo at hap w;unfold kJ0 at hap;split at hap
      ·simp [wA0] at w
      ·cases hap
    cases h1 with
    | pure h1 => exact hB
    | made he r h1 => exact hB
    | mkat he b' r H' h1 => rw [zbv9 he] at hap; cases hap
    | eff he h1 =>
     refine wbI9 hap f1 h1 (fun q => ?_) (fun q => ?_) hB
     ·have q : topB (getA a t).strip = some b := q;rw [q] at c1; simp at c1
     ·rw [q] at c2; simp at c2
    | call c f g cap ho hcal => rw [ho] at hap; obtain ⟨c1, c2, c3⟩ := c; simp only at hcal; subst hcal; simp [kJ0] at hap
    | yield c f b' ho hcal => rw [ho] at hap; obtain ⟨c1, c2, c3⟩ := c; simp only at hcal; subst hcal; simp [kJ0] at hap
end
variable {ρ : Bool} {n0 : Nat} {Q : Post} {a : List AV} {H : List Blk}
theorem wbZ9 {id : Nat} {ops : List Oper} {dr : Operand → Bool} (rs : List (Nat × Nat)) (es : List (Nat × Option Nat)) (dl : List (Nat × Nat)) (hm : P.follows .mixedOrders = true) (ho : zan9 dr rs es (delays dl ops) = true) (hl : xaF9 rs es (delays dl ops) = true)
  (hv : ((delays dl ops).all fun o => !(waa9 es o && isVC o.op) || kpF dr) = true) (hx : ((delays dl ops).all fun o => !((waa9 es o && isMk o.op && atF dr) || (eFlagM es o && !mFlag dr o))) = true) (hlen : ∀ y ∈ es, y.1 < a.length) (hckA : delayOkA P dl ops = true) (hckB : delayOkB dl ops = true) (hckC : delayOkC dl ops = true) (h : ChainK P G dr ops (fun a H => Q .normal a H ∧ zcx9 rs es a) ops a H) : AWp ρ P G n0 (.region id ops.toArray true) Q a H := fun ro S act hr0 h1 h2 h3 h4 => by
 refine wpIn_region_any hm ?_;obtain ⟨T, hT, hlex⟩ := xaZ9 ho;have hcl : ∀ ops : List Oper, kR0 .any ops (Array.replicate ops.length false) := fun ops k o _ hk => by
  exfalso;rw [Array.getD_eq_getD_getElem?] at hk;rcases Nat.lt_or_ge k ops.length with q|q
  ·rw [Array.getElem?_replicate, if_pos q] at hk; cases hk
  ·rw [Array.getElem?_replicate, if_neg (by omega)] at hk; cases hk
 have hch := vZ0 dl ops 0 a H h;obtain ⟨af, _, _, hN⟩ := wbv9 (delays dl ops) a H hl hv hx hlen hch;have hA := qaF9 _ _ _ _ (zaF9 (md := .any) hT (delays dl ops) 0 (Array.replicate (delays dl ops).length false) a H (fun j => by simp) hlex (hcl _) hN)
 let S1 : St := S.with (S.w.drewN 1)
 have hok1 : S1.Ok H := ⟨h1.imm, h1.row, h1.ob, h1.inj⟩;have hext : Ext n0 S H S1 H := ⟨rfl, rfl, rfl, Nat.le_refl _, fun _ _ _ => rfl, fun _ _ q => q, fun _ q => .inl q, fun _ q => .inl q, fun _ _ _ _ q => ⟨_, Nat.le_refl _, q, fun _ => rfl⟩, fun _ _ _ q => q, fun q => q⟩;have e : ops.toArray.size = ops.length := by simp
 rw [e];rw [vF0] at hA;refine wcw9 (ro := ro) (Q := fun e => Ends G n0 S H act.defers (Q e)) (dl := dl) hckA hckB hckC (fun act w q => q) ops.length [] _ _ a H S1 act hA ⟨hok1, h2, by assumption, hext, h4, Marks.refl _ _ _ _, ⟨by simp, by simp, fun j hj => by simp⟩, hcl _, fun p hp => (by cases hp), .nil⟩ ?_;rw [List.countP_eq_length.2 fun j hj => by have := List.mem_range.1 hj; simp [this], List.length_range]
end
def zak9 : List (Nat × Option Nat) → AV → (Nat → AV) → Bool
 | [], _, _ => true
 | (_, some t) :: es, v, s => apB v (s t) && zak9 es v s
 | (_, none) :: es, v, s => zak9 es v s
def xbm9 : List (Nat × Nat) → List (Nat × Option Nat) → (Nat → AV) → Bool
 | [], _, _ => true
 | (_, x) :: rs, es, s => zak9 es (s x) s && xbm9 rs es s
theorem zV0 {v : AV} {s : Nat → AV} : ∀ {es : List (Nat × Option Nat)}, zak9 es v s = true → ∀ y ∈ es, ∀ t, y.2 = some t → apB v (s t) = true
 | [], _, y, hy, _, _ => by cases hy
 | (k, some t0) :: es, h, y, hy, t, ht => by
  simp only [zak9, Bool.and_eq_true] at h;rcases List.mem_cons.1 hy with rfl|hy
  ·injection ht with ht; subst ht; exact h.1
  ·exact zV0 h.2 y hy t ht
 | (k, none) :: es, h, y, hy, t, ht => by
  simp only [zak9] at h;rcases List.mem_cons.1 hy with rfl|hy
  ·cases ht
  ·exact zV0 h y hy t ht
theorem waF9 {es : List (Nat × Option Nat)} {s : Nat → AV} : ∀ {rs : List (Nat × Nat)}, xbm9 rs es s = true → ∀ x ∈ rs, zak9 es (s x.2) s = true
 | [], _, x, hx => by cases hx
 | (d, x0) :: rs, h, x, hx => by
  simp only [xbm9, Bool.and_eq_true] at h;rcases List.mem_cons.1 hx with rfl|hx
  ·exact h.1
  ·exact waF9 h.2 x hx
def kcX9 (rs : List (Nat × Nat)) (es : List (Nat × Option Nat)) (Q : xn0) : xn0 := fun e s H => Q e s H ∧ xbm9 rs es s = true
theorem wcx9 {rs : List (Nat × Nat)} {es : List (Nat × Option Nat)} {n : Nat} {s : Nat → AV} (h : xbm9 rs es s = true) : zcx9 rs es (Lst n s) := fun x hx y hy t ht => by
 have h1 := zV0 (waF9 h x hx) y hy t ht;rw [qan9, qan9];split
 ·split
  ·exact h1
  ·unfold apB; cases topB (s x.2).strip <;> simp [AV.strip, topB]
 ·unfold apB; simp [AV.strip, topB]
section
variable {ρ : Bool} {P : Program} {G : Glob} {n0 n : Nat} {body : Code} {p : List Nat} {Q : xn0} {B : Prop} {s : Nat → AV} {H : List Blk} {dr : Operand → Bool}
def wbm9 (P : Program) (dr : Operand → Bool) (rs : List (Nat × Nat)) (es : List (Nat × Option Nat)) (dl : List (Nat × Nat)) (ops : List Oper) : Bool :=
 zan9 dr rs es (delays dl ops) && xaF9 rs es (delays dl ops) && ((delays dl ops).all fun o => !(waa9 es o && isVC o.op) || kpF dr) && ((delays dl ops).all fun o => !((waa9 es o && isMk o.op && atF dr) || (eFlagM es o && !mFlag dr o))) && delayOkA P dl ops && delayOkB dl ops && delayOkC dl ops
theorem qau9 {P : Program} {G : Glob} {q : Operand → Bool} {ops : List Oper} {K K' : List AV → List Blk → Prop} (hk : ∀ a H, K a H → K' a H) : ∀ (l : List Oper) (a : List AV) (H : List Blk), ChainK P G q ops K l a H → ChainK P G q ops K' l a H
 | [], a, H, h => hk a H h
 | o :: l, a, H, ⟨r, H', hs, h⟩ => ⟨r, H', hs, qau9 hk l _ _ h⟩
theorem wd0 (rs : List (Nat × Nat)) (es : List (Nat × Option Nat)) (dl : List (Nat × Nat)) (hs : vN0 (atR body p) = true) (hd : kaD9 (atR body p) = true) (hm : P.follows .mixedOrders = true) (ho : wbm9 P dr rs es dl (zm0 (atR body p)) = true) (h : Acc ρ P G n0 n dr body p (kcX9 rs es Q) 0 B s H) (hown : ownF dr = false := by rfl) (hlen : (es.all fun y => decide (y.1 < n)) = true := by rfl) : Go ρ P G n0 n body p Q B s H := by
 refine ⟨h.1, ?_⟩;have h2 := h.2;unfold At;generalize atR body p = c at hs h2 hd ho;cases c with
 | region id ops d =>
  cases hd
  simp only [zm0, List.drop_zero] at h2 ho;simp only [wbm9, Bool.and_eq_true] at ho;refine wbZ9 (ops := ops.toList) rs es dl hm ho.1.1.1.1.1.1 ho.1.1.1.1.1.2 ho.1.1.1.1.2 ho.1.1.1.2 (fun y hy => by rw [vy0]; simpa using List.all_eq_true.1 hlen y hy) ho.1.1.2 ho.1.2 ho.2 (qau9 (fun a H q => ?_) _ _ _ (wU0 hown _ _ _ h2));obtain ⟨s', rfl, q1, q2⟩ := q;exact ⟨⟨s', rfl, q1⟩, wcx9 q2⟩
 | _ => cases hs
theorem vcx9 {rs : List (Nat × Nat)} {es : List (Nat × Option Nat)} (h : Out Q .normal (B ∧ xbm9 rs es s = true) s H) : Out (kcX9 rs es Q) .normal B s H := ⟨h.1.1, h.2, h.1.2⟩
end
attribute [push_cast] xbm9 zak9 apB topB
def zd0 (s k : Nat) : Blk := .row s 0 (List.replicate (k + 1) [])
def St.dead (S : St) (b : Nat) : St := { S with μ := upd S.μ b none }
theorem xan9 {b sz : Nat} {t : TypeId} {S : St} {H : List Blk} {es : List (List AV)} (hb : H[b]? = some (.row sz t es)) (hok : S.Ok H) :
  (S.dead b).Ok (H.set b (zd0 sz es.length)) ∧ (S.env H).le ((S.dead b).env (H.set b (zd0 sz es.length))) ∧ (∀ x g, (S.dead b).at (H.set b (zd0 sz es.length)) x = some g → x ≠ b ∧ S.at H x = some g) ∧ (∀ x g, x ≠ b → S.at H x = some g → (S.dead b).at (H.set b (zd0 sz es.length)) x = some g) ∧
  ∀ n0, Ext n0 S H (S.dead b) (H.set b (zd0 sz es.length)) := by
 have hlt := (List.getElem?_eq_some_iff.1 hb).1;have hself : (H.set b (zd0 sz es.length))[b]? = some (zd0 sz es.length) := List.getElem?_set_self hlt;have hne : ∀ x, x ≠ b → (H.set b (zd0 sz es.length))[x]? = H[x]? := fun x e => List.getElem?_set_ne (Ne.symm e);have hat : ∀ x, x ≠ b → (S.dead b).at (H.set b (zd0 sz es.length)) x = S.at H x := fun x e => by
  simp only [St.at, St.dead, hne x e, kg0 _ _ e]
 have hatb : ∀ x g, (S.dead b).at (H.set b (zd0 sz es.length)) x = some g → x ≠ b := fun x g hx e => by
  subst e;unfold St.at at hx;rw [hself] at hx;simp [zd0, St.dead, qf0] at hx
 have hsh : ∀ x, x ≠ b → shOf (H.set b (zd0 sz es.length)) x = shOf H x := fun x e => by simp only [shOf, hne x e]
 have hshb : shOf (H.set b (zd0 sz es.length)) b = some (sz, es.length + 1) := by simp only [shOf, hself]; simp [zd0]
 have hshb0 : shOf H b = some (sz, es.length) := by simp [shOf, hb]
 have hmp : ∀ x, mpOf S.ν (H.set b (zd0 sz es.length)) x = mpOf S.ν H x := fun x => by
  by_cases e : x = b
  ·subst e; simp only [mpOf, hself, hb]; rfl
  ·simp only [mpOf, hne x e]
 have hle : (S.env H).le ((S.dead b).env (H.set b (zd0 sz es.length))) := by
  refine ⟨fun _ _ h => h, fun x s1 cur h => ?_, fun x g h => ?_⟩
  ·by_cases e : x = b
   ·subst e;have h : shOf H x = some (s1, cur) := h;rw [hshb0] at h;injection h with h; injection h with h1 h2; subst h1; subst h2
    exact ⟨es.length + 1, Nat.le_succ _, hshb, fun q => absurd q (Nat.succ_ne_self _)⟩
   ·exact ⟨cur, Nat.le_refl _, (hsh x e).trans h, fun _ => kg0 _ _ e⟩
  ·exact (hmp x).trans h
 refine ⟨⟨hok.imm, fun x s' t' es2 hx => ?_, fun x o hx => ?_, fun x y g hx hy => ?_⟩, hle, fun x g hx => ⟨hatb x g hx, by rw [← hat x (hatb x g hx)]; exact hx⟩, fun x g e hx => (hat x e).trans hx, fun n0 => ⟨rfl, rfl, rfl, Nat.le_refl _, fun _ _ _ => rfl, fun _ _ h => h, fun _ h => .inl h, fun k h => ?_, fun x s1 cur _ hs => ?_, fun x g _ hg => (hmp x).trans hg, fun h => by simpa using h⟩⟩
 ·by_cases e : x = b
  ·subst e;rw [hself] at hx;injection hx with hx; injection hx with h1 h2 h3
   exact .inl ⟨qf0 _ _ _, .inr h2.symm⟩
  ·rw [hne x e] at hx;rcases hok.row x s' t' es2 hx with q|⟨g, k, cs, h1, h2, h3, h4, h5, h6, h7⟩
   ·exact .inl ⟨(kg0 _ _ e).trans q.1, q.2⟩
   ·exact .inr ⟨g, k, cs, (kg0 _ _ e).trans h1, h2, h3, h4, h5, h6, h7.mono hle⟩
 ·have e : x ≠ b := by
   rintro rfl;rw [hself] at hx; cases hx
  rw [hne x e] at hx;obtain ⟨g, ob1, h1, h2, h3, h4⟩ := hok.ob x o hx;exact ⟨g, ob1, h1, h2, h3, h4.mono hle⟩
 ·have q1 := hatb x g hx;have q2 := hatb y g hy;rw [hat x q1] at hx; rw [hat y q2] at hy;exact hok.inj x y g hx hy
 ·obtain ⟨x, hx⟩ := h;have q1 := hatb x k hx;rw [hat x q1] at hx;exact .inl ⟨x, hx⟩
 ·by_cases e : x = b
  ·subst e;rw [hshb0] at hs;injection hs with hs; injection hs with h1 h2; subst h1; subst h2
   exact ⟨es.length + 1, Nat.le_succ _, hshb, fun q => absurd q (Nat.succ_ne_self _)⟩
  ·exact ⟨cur, Nat.le_refl _, (hsh x e).trans hs, fun _ => kg0 _ _ e⟩
theorem vbZ9 {n0 n b sz : Nat} {t : TypeId} {s : Nat → AV} {H : List Blk} {es : List (List AV)} (hb : H[b]? = some (.row sz t es)) :
  Weak n0 (Lst n s) H (Lst n s) (H.set b (zd0 sz es.length)) := fun S vs hok hn ha => by
 obtain ⟨h1, h2, _, _, h3⟩ := xan9 hb hok;exact ⟨S.dead b, rfl, h1, h3 n0, RelL.mono h2 _ _ ha⟩
theorem vS0 {n0 n b sz : Nat} {t : TypeId} {es : List (List AV)} {Q : xn0} {B : Prop} {s : Nat → AV} {H : List Blk} {I : Nat → (Nat → AV) → List Blk → Prop} {m : Nat} (m' k : Nat) (hb : H[b]? = some (.row sz t es)) (hm : m' < m) (hB : B) (hn : n0 ≤ k) (hk : k ≤ H.length) (hbl : ((H.set b (zd0 sz es.length)).take k).all (Blk.below k) = true) (hI : I m' (fun t => qe0 k (s t)) ((H.set b (zd0 sz es.length)).take k)) :
  Out (xF0 (fun s' H' => ∃ m' s2 H2, m' < m ∧ Weak n0 (Lst n s') H' (Lst n s2) H2 ∧ I m' s2 H2) Q) .normal B s H := by
 refine ⟨hB, m', _, _, hm, ?_, hI⟩;have h1 : Weak n0 (Lst n s) H (Lst n s) (H.set b (zd0 sz es.length)) := vbZ9 hb;have h2 : Weak n0 (Lst n s) (H.set b (zd0 sz es.length)) (Lst n fun t => qe0 k (s t)) ((H.set b (zd0 sz es.length)).take k) := by
  rw [← wZ0];exact zas9 hn (by simpa using hk) hbl
 exact h1.trans h2
theorem xdw9 (x y : AV) : AV.ite false x y = y := by
 unfold AV.ite; split <;> rfl
theorem wdw9 (x y : AV) : AV.ite true x y = x := by
 unfold AV.ite; split <;> rfl
attribute [push_cast] xdw9 wdw9
end Go.V
