/- The library V, part 16: regions that draw their order. -/
import Derived.Test.YtbgdagokjfmcbaaDoorVN
import Derived.RangeFuncRecord
import Derived.OrdersIn
set_option linter.unusedVariables false
set_option linter.unusedSimpArgs false
set_option maxHeartbeats 0
namespace Go.V
open Go
def exN : AV → AV
 | .sl 0 [] (some 0) => .lit (.slice none 0 0)
 | a => a
theorem xcQ9 (E : Env) (v : Value) : Rel E (exN (vA0 v)) v := by
 have h := wad9 E v;unfold vA0 at h ⊢;split <;> first|(simp [exN, Rel]; done)|exact h
theorem qcq9 (E : Env) (vs : List Value) : RelL E ((vs.map vA0).map exN) vs :=
 RelL.mk (by simp) fun i a v ha hv => by
  rw [List.getElem?_map, List.getElem?_map, hv] at ha;simp only [Option.map_some, Option.some.injEq] at ha;subst ha; exact xcQ9 E v
def zC0 (P : Program) (H : List Blk) (b : Nat) (t : TypeId) (l c : AV) : Bool × AV × List Blk :=
 match shp P t, l, c with
 | .slice e, .int _ l, .int _ c =>
  match kc0 P e, H[b]? with
  | some E, some (.row s e' []) => (decide (1 ≤ l) && decide (l ≤ c) && decide ((E.bytes : Int) * c ≤ 281474976710656) && decide (c ≤ maxLen) && E.zero.length == E.sz && s == E.sz && e' == e,
    .own b l.toNat l.toNat (some c.toNat), H.set b (.row E.sz e (List.replicate l.toNat (E.zero.map exN))))
  | _, _ => bad3
 | _, _, _ => bad3
def wQ0 (P : Program) (o : Op) (ρ : Operand → AV) (H : List Blk) (b : Nat) : Bool × AV × List Blk :=
 match o with
 | .makeSlice t l c => ((ρ l).ok && (ρ c).ok && (zC0 P H b t (ρ l).strip (ρ c).strip).1, (zC0 P H b t (ρ l).strip (ρ c).strip).2)
 | _ => bad3
def MkAt (P : Program) (o : Op) (ρ : Operand → AV) (H : List Blk) (b : Nat) (r : AV) (H' : List Blk) : Prop := (wQ0 P o ρ H b).1 = true ∧ r = (wQ0 P o ρ H b).2.1 ∧ H' = (wQ0 P o ρ H b).2.2
section
variable {P : Program} {S : St} {H : List Blk}
theorem xbD9 (hok : S.Ok H) {b : Nat} {t : TypeId} {l c : AV} {u v : Value} (hl : Rel (S.env H) l u) (hc : Rel (S.env H) c v) (h : (zC0 P H b t l c).1 = true) :
  qJ0 P S H (do pure (.value (← Instr.makeSlice t u v))) (zC0 P H b t l c).2.1 (zC0 P H b t l c).2.2 := by
 unfold zC0 at *;split at h
 ·rename_i e k1 l k2 c hs;obtain ⟨TT, hTT, hsh⟩ := xc0 hs (by simp);have hu := zi0 hTT hsh;have e1 := hl; simp only [Rel] at e1; subst e1;have e2 := hc; simp only [Rel] at e2; subst e2;split at h
  ·rename_i E s e' hE hb;obtain ⟨i, d, z, hi, hd, hz, h1, hEE⟩ := ve0 hE;have hzr0 : RelL (S.env H) E.zero z.cells.toList := by rw [hEE]; exact kl0 _ _
   have hzr : RelL (S.env H) (E.zero.map exN) z.cells.toList := by rw [hEE]; exact qcq9 _ _
   simp only [hE, hb, Bool.and_eq_true, decide_eq_true_eq, beq_iff_eq] at h ⊢;obtain ⟨⟨⟨⟨⟨⟨h0, hlc⟩, hby⟩, hm⟩, hzl⟩, hss⟩, hee⟩ := h;subst hss; subst hee;have hzs : z.cells.size = E.sz := by rw [← hzl, hzr0.length]; simp
   have hEsz : E.sz = i.size := by rw [hEE]
   have hEb : E.bytes = i.bytes := by rw [hEE]
   have hm' : c ≤ 9223372036854775807 := by simp only [maxLen] at hm; omega
   have hr := run_make (P := P) S.w t e' i z hu hi hz k1 k2 l c (by omega) hlc (by rw [← hEb]; exact hby) hm';have hcm : c.toNat ≤ maxLen := by simp only [maxLen] at hm ⊢; omega
   have hlt : ([] : List (List AV)).length < (List.replicate l.toNat (E.zero.map exN)).length := by simp; omega
   have hbl : b < H.length := (List.getElem?_eq_some_iff.1 hb).1;refine ⟨_, .slice (some ⟨S.w.heap.size, 0, none⟩) l.toNat c.toNat, S.fresh b c.toNat e' (madeCells z.cells (c.toNat * i.size)) 0, ?_, .inl rfl, kbh9 hok 0 hb hlt (by simp; omega) hcm (by rw [size_madeCells, hEsz]) ?_, wam9 hok _ _ _ hb hlt, ?_⟩
   ·simp only [Sem.run_bind, hr, Result.andThen_ok, Sem.run_pure];rfl
   ·intro q el hq;rw [List.getElem?_replicate] at hq;split at hq
    ·rename_i hql;injection hq with hq; subst hq
     refine ⟨by rw [List.length_map]; exact hzl, fun j a hj => ?_⟩;have hjs : j < E.sz := by rw [← hzl, ← List.length_map (f := exN)]; exact (List.getElem?_eq_some_iff.1 hj).1
     have hpos : 0 < z.cells.size := by omega
     have hqj : q * E.sz + j < c.toNat * i.size := by
      rw [← hEsz];have : (q + 1) * E.sz ≤ c.toNat * E.sz := Nat.mul_le_mul_right _ (by omega);rw [Nat.add_mul] at this;omega
     have hmod : (q * E.sz + j) % z.cells.size = j := by
      rw [hzs, Nat.add_comm, Nat.add_mul_mod_self_right, Nat.mod_eq_of_lt hjs]
     obtain ⟨v, hv, hrv⟩ := hzr.get hj;refine ⟨v, ?_, h1 v (List.mem_of_getElem? hv), hrv⟩;have hjz : j < z.cells.size := by omega
     simp only [madeCells, Array.getElem?_map, Array.getElem?_range, hqj, if_true, Option.map_some, hmod];rw [getElem!_pos z.cells j hjz];simpa [hjz] using hv
    ·cases hq
   ·have hsh' : shOf (H.set b (.row E.sz e' (List.replicate l.toNat (E.zero.map exN)))) b = some (E.sz, l.toNat) := by
     unfold shOf; rw [List.getElem?_set_self hbl]; simp
    refine vh0 hsh' (Nat.le_refl _) (.inr ⟨S.w.heap.size, c.toNat, c.toNat, qf0 _ _ _, rfl, by omega, Nat.le_refl _, fun q => (by cases q), fun j hj => ?_⟩);injection hj
  ·cases h
 ·cases h
theorem xw0 {b : Nat} {t : TypeId} {l c : AV} (h : (zC0 P H b t l c).1 = true) : ∃ s e es n cc, H[b]? = some (.row s e []) ∧ es ≠ [] ∧ (zC0 P H b t l c).2 = (.own b n n cc, H.set b (.row s e es)) ∧
  ∀ H2 : List Blk, H2[b]? = some (.row s e []) → zC0 P H2 b t l c = (true, .own b n n cc, H2.set b (.row s e es)) := by
 unfold zC0 at *;split at h
 ·rename_i e k1 l k2 c hs;split at h
  ·rename_i E s e' hE hb;have h' := h;simp only [hE, hb, Bool.and_eq_true, decide_eq_true_eq, beq_iff_eq] at h';obtain ⟨⟨⟨⟨⟨⟨h0, hlc⟩, hby⟩, hm⟩, hzl⟩, hss⟩, hee⟩ := h';subst hss; subst hee;refine ⟨E.sz, e', List.replicate l.toNat (E.zero.map exN), l.toNat, some c.toNat, hb, ?_, by simp only [hE, hb], fun H2 h2 => ?_⟩
   ·intro q;have := congrArg List.length q;simp at this; omega
   ·simp only [hE, h2];simp only [hb] at h;rw [h]
  ·cases h
 ·cases h
end
theorem zbi9 {P : Program} {ρ ρ' : Operand → AV} {H : List Blk} {b : Nat} (o : Op) (h : ∀ x ∈ o.operands, ρ x = ρ' x) : wQ0 P o ρ H b = wQ0 P o ρ' H b := by
 cases o with
 | makeSlice t l c => simp only [wQ0, h l (by simp [Op.operands]), h c (by simp [Op.operands])]
 | _ => rfl
theorem vae9 {P : Program} {ρ ρ' : Operand → AV} {H H' : List Blk} {b : Nat} {r : AV} {o : Op} (h : ∀ x ∈ o.operands, ρ x = ρ' x) (hs : MkAt P o ρ H b r H') : MkAt P o ρ' H b r H' := by
 unfold MkAt at *;rw [zbi9 o h] at hs; exact hs
theorem xbP9 {P : Program} {ρ ρ' : Operand → AV} {H H1 H2 : List Blk} {b1 b2 : Nat} {r1 r2 : AV} {o1 o2 : Op} (h1 : MkAt P o1 ρ H b1 r1 H1) (h2 : MkAt P o2 ρ' H1 b2 r2 H2) : ∃ Hm, MkAt P o2 ρ' H b2 r2 Hm ∧ MkAt P o1 ρ Hm b1 r1 H2 := by
 unfold MkAt at *;cases o1 with
 | makeSlice t1 l1 c1 =>
  cases o2 with
  | makeSlice t2 l2 c2 =>
   simp only [wQ0, Bool.and_eq_true] at h1 h2 ⊢;obtain ⟨⟨a1, a2⟩, a3, a4⟩ := h1;obtain ⟨⟨g1, g2⟩, g3, g4⟩ := h2;obtain ⟨s, e, es, n, cc, q1, q2, q3, q4⟩ := xw0 a2;obtain ⟨s', e', es', n', cc', p1, p2, p3, p4⟩ := xw0 g2;rw [q3] at a3 a4;rw [p3] at g3 g4;simp only at a3 a4 g3 g4;subst a4;have hne : b1 ≠ b2 := by
    intro q;subst q;rw [List.getElem?_set_self (List.getElem?_eq_some_iff.1 q1).1] at p1;injection p1 with p1; injection p1 with _ _ p1
    exact q2 p1
   rw [List.getElem?_set_ne hne] at p1;have r2' := p4 H p1;have r1' := q4 (H.set b2 (.row s' e' es')) (by rw [List.getElem?_set_ne (Ne.symm hne)]; exact q1);refine ⟨H.set b2 (.row s' e' es'), ⟨⟨g1, by rw [r2']⟩, by rw [r2', g3], by rw [r2']⟩, ⟨a1, by rw [r1']⟩, by rw [r1', a3], ?_⟩;rw [r1', g4, List.set_comm _ _ hne]
  | _ => exact absurd h2.1 (by simp [wQ0, bad3])
 | _ => exact absurd h1.1 (by simp [wQ0, bad3])
end Go.V
namespace Go.V
open Go Go.RowKit
abbrev Glob := Nat → Option (List AV)
def Env0 (M : Mem) : Env := ⟨M, fun _ => none, fun _ => none, fun _ => none⟩
def Globs (G : Glob) (M : Mem) : Prop := ∀ g cs, G g = some cs → ∃ (vs : List Value) (t : TypeId) (fr : Nat × Nat), M g = some (.cells vs.toArray t fr) ∧ RelL (Env0 M) cs vs ∧ ∀ u ∈ vs, u.oneCell' = true
theorem Globs.relC {G : Glob} {M : Mem} (h : Globs G M) {g : Nat} {cs : List AV} (hg : G g = some cs) : RelC (Env0 M) cs g 0 := by
 obtain ⟨vs, t, fr, h1, h2, h3⟩ := h g cs hg;refine RelC.mk fun j a hj => ?_;obtain ⟨v, hv, hr⟩ := h2.get hj;exact ⟨v, by simp [qx0, Env0, h1, hv], h3 v (List.mem_of_getElem? hv), hr⟩
theorem wbP9 (M M' : Mem) (h : ∀ k o, M k = some o → M' k = some o) (E : Env) (hE : E.M = M') : (Env0 M).le E :=
 ⟨(by rw [hE]; exact h), fun b s cur q => (by cases q), fun b g q => (by cases q)⟩
theorem Globs.mono {G : Glob} {M M' : Mem} (hg : Globs G M) (h : ∀ k o, M k = some o → M' k = some o) : Globs G M' :=
 fun g cs hc => let ⟨vs, t, fr, h1, h2, h3⟩ := hg g cs hc; ⟨vs, t, fr, h _ _ h1, RelL.mono (wbP9 M M' h _ rfl) _ _ h2, h3⟩
def getA (a : List AV) (t : Nat) : AV := a.getD t (.tup [])
def putA (a : List AV) (d : Option Tmp) (v : AV) : List AV :=
 match d with
 | some d => a.set d v
 | none => a
def ev (G : Glob) (a : List AV) : Operand → AV
 | .tmp t => getA a t
 | .const v => qT0 v
 | .global g => match G g with|some cs => .iptr cs 0|none => .top
 | .func f => .fn f []
theorem waj9 {a : List AV} {t d : Nat} (v : AV) (h : d ≠ t) : getA (putA a (some d) v) t = getA a t := by
 simp [getA, putA, List.getD_eq_getElem?_getD, List.getElem?_set_ne h]
theorem qaU9 (a : List AV) {x y : Option Tmp} (v u : AV) (h : ∀ d, x = some d → y ≠ some d) : putA (putA a x v) y u = putA (putA a y u) x v := by
 cases x with
 | none => rfl
 | some d =>
  cases y with
  | none => rfl
  | some e =>
   have hne : d ≠ e := fun q => h d rfl (by rw [q]);simp only [putA];exact List.set_comm _ _ hne
theorem vam9 {E : Env} {a : List AV} {ts : Array Value} (h : RelL E a ts.toList) (t : Nat) : Rel E (getA a t) (ts.getD t undef) := by
 unfold getA;rw [List.getD_eq_getElem?_getD];cases ha : a[t]? with
 | none =>
  have : ts.size ≤ t := by
   have h1 := List.getElem?_eq_none_iff.1 ha;have := h.length;simp at this;omega
  rw [Array.getD_eq_getD_getElem?, Array.getElem?_eq_none this];simp [Rel, RelL, undef]
 | some v =>
  obtain ⟨u, hu, hr⟩ := h.get ha;have : ts[t]? = some u := by simpa using hu
  rw [Array.getD_eq_getD_getElem?, this];exact hr
theorem zaU9 {G : Glob} {S : St} {H : List Blk} {a : List AV} {act : Act} (hG : Globs G S.M) (h : RelL (S.env H) a act.tmps.toList) (x : Operand) : Rel (S.env H) (ev G a x) (act.eval x) := by
 cases x with
 | tmp t => exact vam9 h t
 | const v => exact kaR9 _ v
 | global g =>
  simp only [ev, Act.eval];split
  ·rename_i cs hg;simp only [Rel];exact ⟨g, 0, rfl, (hG.relC hg).mono (wbP9 S.M S.M (fun _ _ h => h) _ rfl)⟩
  ·simp [Rel]
 | func f => simp [ev, Act.eval, Rel, RelL]
theorem kam9 {E : Env} {a : List AV} {act : Act} (h : RelL E a act.tmps.toList) (d : Option Tmp) {r : AV} {v : Value} (hr : Rel E r v) : RelL E (putA a d r) (act.put d v).tmps.toList := by
 cases d with
 | none => exact h
 | some d => simpa [putA, Act.put] using h.set d hr
section
variable {P : Program} {S : St} {H : List Blk}
theorem zcq9 (hok : S.Ok H) {ρ : Operand → AV} {ρv : Operand → Value} (hρ : ∀ x, Rel (S.env H) (ρ x) (ρv x)) (o : Oper) (h : (xg0 P o.op ρ H).1 = true) :
  qJ0 P S H (execOp ρv o) (xg0 P o.op ρ H).2.1 (xg0 P o.op ρ H).2.2 := by
 obtain ⟨dst, op, type, pos, after, guard⟩ := o;simp only at h ⊢;have st : ∀ x, (ρ x).ok = true → Rel (S.env H) (ρ x).strip (ρv x) := fun x hx => (hρ x).strip hx;cases op with
 | alloc t => exact kbO9 hok h
 | box t x =>
  simp only [xg0, Bool.and_eq_true] at h ⊢;exact zcQ9 hok (st x h.1) h.2
 | store t p x =>
  simp only [xg0, Bool.and_eq_true] at h ⊢;exact qbP9 hok (st p h.1) (st x h.2.1) h.2.2
 | makeSlice t l c =>
  simp only [xg0, Bool.and_eq_true] at h ⊢;exact xcp9 hok (st l h.1) (st c h.2.1) h.2.2
 | makeMap t r =>
  simp only [xg0, Bool.and_eq_true] at h ⊢;exact qbi9 hok (xam9 hρ r h.1) h.2
 | mapUpdate t m k x =>
  simp only [xg0, Bool.and_eq_true] at h ⊢;exact qaD9 hok (st m h.1) (st k h.2.1) (st x h.2.2.1) h.2.2.2
 | insert t m k x =>
  simp only [xg0, Bool.and_eq_true] at h ⊢;exact qaD9 hok (st m h.1) (st k h.2.1) (st x h.2.2.1) h.2.2.2
 | call c =>
  obtain ⟨callee, args, argTypes⟩ := c;cases callee with
  | builtin b =>
   cases b with
   | append =>
    simp only [xg0] at h ⊢;split at h
    ·rename_i d x t t1 ha ht;simp only [Bool.and_eq_true] at h;have := qbD9 (P := P) (ty := type) hok (st d h.1) (st x h.2.1) h.2.2;have hA : args.map ρv = #[ρv d, ρv x] := by apply Array.ext'; simp [ha]
     have hT : argTypes = #[t, t1] := by apply Array.ext'; simp [ht]
     obtain ⟨nx, v, S', h1, h2⟩ := this;refine ⟨nx, v, S', ?_, h2⟩;simpa [execOp, resolve, invoke, builtin, hA, hT] using h1
    ·cases h
   | copy =>
    simp only [xg0] at h ⊢;split at h
    ·rename_i d x t t1 ha ht;simp only [Bool.and_eq_true] at h;have := wcp9 (P := P) (t1 := t1) (ty := type) hok (st d h.1) (st x h.2.1) h.2.2;have hA : args.map ρv = #[ρv d, ρv x] := by apply Array.ext'; simp [ha]
     have hT : argTypes = #[t, t1] := by apply Array.ext'; simp [ht]
     obtain ⟨nx, v, S', h1, h2⟩ := this;refine ⟨nx, v, S', ?_, h2⟩;simpa [execOp, resolve, invoke, builtin, hA, hT] using h1
    ·cases h
   | _ => cases h
  | _ => cases h
 | _ => cases h
end
def qg0 (P : Program) (G : Glob) (f : FuncId) (args : List AV) (H : List Blk) (r : AV) (H' : List Blk) : Prop :=
 ∀ (S : St) (vals : List Value), S.Ok H → Globs G S.M → RelL (S.env H) args vals →
  Calls P f vals.toArray S.w fun e w' => ∃ v S', e = .returned v ∧ S'.w = w' ∧ S'.Ok H' ∧ Ext H.length S H S' H' ∧ Rel (S'.env H') r v
def fen (ro : Option Nat) : Fence := { Fence.wide with round := ro }
theorem zar9 {ro : Option Nat} {n : Nat} {P : Program} {f : FuncId} {args : Array Value} {w : World} {R : Ending → World → Prop} (h : Calls P f args w R) : CallsIn (fen ro) n P f args w R := (callsIn_wide (n := n)).2 h
def wX0 (P : Program) (G : Glob) (b : Nat) (args : List AV) (H : List Blk) (r : AV) (H' : List Blk) : Prop :=
 ∀ (S : St) (vals : List Value) (l : Nat), S.Ok H → Globs G S.M → RelL (S.env H) args vals → mpOf S.ν H b = some l →
  ∃ fn tmps assign body, (Instr.yield l vals.toArray).run P S.w = .ok (.round l fn tmps assign body) S.w ∧
   RoundIn Fence.wide 0 P l fn tmps assign body S.w fun e w' => ∃ v S', e = .returned v ∧ S'.w = w' ∧ S'.Ok H' ∧ Ext H.length S H S' H' ∧ Rel (S'.env H') r v
def zc0 (P : Program) (f : FuncId) : Bool :=
 match P.funcs[f]? with
 | some fn => fn.name != "runtime.NumGoroutine" && fn.body.isSome
 | none => false
def isMk : Op → Bool
 | .makeSlice _ _ _ => true
 | _ => false
def Made (P : Program) (o : Op) (ρ : Operand → AV) (H : List Blk) (r : AV) : Prop :=
 ∀ (oo : Oper), oo.op = o → ∀ (S : St) (ρv : Operand → Value), S.Ok H → (∀ x ∈ o.operands, Rel (S.env H) (ρ x) (ρv x)) → qJ0 P S H (execOp ρv oo) r H
inductive xx0 (P : Program) (G : Glob) (o : Op) (ρ : Operand → AV) (H : List Blk) : AV → List Blk → Prop where
 | pure (h : (zf0 P o ρ H).1 = true) : xx0 P G o ρ H (zf0 P o ρ H).2 H
 | eff (he : wA0 o = true) (h : (xg0 P o ρ H).1 = true) : xx0 P G o ρ H (xg0 P o ρ H).2.1 (xg0 P o ρ H).2.2
 | call (c : Call) (f : Operand) (g : FuncId) (cap : List AV) (ho : o = .call c) (hc : c.callee = .value f) (hf : (ρ f).strip = .fn g cap) (hk : (ρ f).ok = true) (hent : zc0 P g = true)
   (hargs : (c.args.toList.all fun x => (ρ x).ok) = true) (r : AV) (H' : List Blk) (h : qg0 P G g ((c.args.toList.map fun x => (ρ x).strip) ++ cap) H r H') : xx0 P G o ρ H r H'
 | yield (c : Call) (f : Operand) (b : Nat) (ho : o = .call c) (hc : c.callee = .value f) (hf : (ρ f).strip = .yld b) (hk : (ρ f).ok = true)
   (hargs : (c.args.toList.all fun x => (ρ x).ok) = true) (r : AV) (H' : List Blk) (h : wX0 P G b (c.args.toList.map fun x => (ρ x).strip) H r H') : xx0 P G o ρ H r H'
 | made (he : isMk o = true) (r : AV) (h : Made P o ρ H r) : xx0 P G o ρ H r H
 | mkat (he : isMk o = true) (b : Nat) (r : AV) (H' : List Blk) (h : MkAt P o ρ H b r H') : xx0 P G o ρ H r H'
theorem wcQ9 {P : Program} {S : St} {H H' : List Blk} (hok : S.Ok H) {ρ : Operand → AV} {ρv : Operand → Value} (hρ : ∀ x, Rel (S.env H) (ρ x) (ρv x)) (o : Oper) {b : Nat} {r : AV} (h : MkAt P o.op ρ H b r H') : qJ0 P S H (execOp ρv o) r H' := by
 obtain ⟨dst, op, type, pos, after, guard⟩ := o;obtain ⟨h1, rfl, rfl⟩ := h;simp only at h1 ⊢;have st : ∀ x, (ρ x).ok = true → Rel (S.env H) (ρ x).strip (ρv x) := fun x hx => (hρ x).strip hx;cases op with
 | makeSlice t l c =>
  simp only [wQ0, Bool.and_eq_true] at h1 ⊢;exact xbD9 hok (st l h1.1.1) (st c h1.1.2) h1.2
 | _ => cases h1
theorem zaJ9 {P : Program} {G : Glob} {S : St} {H H' : List Blk} {r : AV} {a : List AV} {act : Act} {o : Oper} (h : xx0 P G o.op (ev G a) H r H') (hok : S.Ok H) (hG : Globs G S.M) (ha : RelL (S.env H) a act.tmps.toList)
  {K : Act → World → Prop} {Q : Exit → Act → World → Prop} (hK : ∀ v S', S'.Ok H' → Ext H.length S H S' H' → Rel (S'.env H') r v → K (act.put o.dst v) S'.w) {ro : Option Nat} : o.wpIn (fen ro) 0 P act S.w K Q := by
 have hρ := fun x => zaU9 (act := act) hG ha x;refine ⟨fun _ _ => trivial, ?_⟩;cases h with
 | pure h =>
  obtain ⟨v, S', h1, h2, h3, h4⟩ := zcp9 hok hρ (fun v => rfl) o h;rw [Oper.semAt_eq _ _ _ (fun c hc => by rw [hc] at h; cases h), h1];exact hK v S' h2 h3 h4
 | eff he h =>
  obtain ⟨nx, v, S', h1, hnx, h2, h3, h4⟩ := zcq9 hok hρ o h;rw [Oper.semAt_eq _ _ _ (fun c hc => by rw [hc] at he; cases he), h1];rcases hnx with rfl|⟨rfl, rfl⟩
  ·exact hK v S' h2 h3 h4
  ·exact hK undef S' h2 h3 h4
 | mkat he b r H' h =>
  obtain ⟨nx, v, S', h1, hnx, h2, h3, h4⟩ := wcQ9 hok hρ o h;rw [Oper.semAt_eq _ _ _ (fun c hc => (by rw [hc] at he; cases he)), h1];rcases hnx with rfl|⟨rfl, rfl⟩
  ·exact hK v S' h2 h3 h4
  ·exact hK undef S' h2 h3 h4
 | made he r h =>
  obtain ⟨nx, v, S', h1, hnx, h2, h3, h4⟩ := h o rfl S act.eval hok fun x _ => hρ x;rw [Oper.semAt_eq _ _ _ (fun c hc => (by rw [hc] at he; cases he)), h1];rcases hnx with rfl|⟨rfl, rfl⟩
  ·exact hK v S' h2 h3 h4
  ·exact hK undef S' h2 h3 h4
 | call c f g cap ho hc hf hk hent hargs r H' h =>
  have hfv := (hρ f).strip hk;rw [hf] at hfv;simp only [Rel] at hfv;obtain ⟨caps, hfe, hcap⟩ := hfv;have hrel : RelL (S.env H) ((c.args.toList.map fun x => (ev G a x).strip) ++ cap) (c.args.toList.map act.eval ++ caps) := by
   refine RelL.append (RelL.mk (by simp) fun i x v hx hv => ?_) hcap;rw [List.getElem?_map] at hx hv;cases hz : c.args.toList[i]? with
   | none => rw [hz] at hx; cases hx
   | some z =>
    rw [hz] at hx hv;injection hx with hx; injection hv with hv; subst hx; subst hv
    exact (hρ z).strip (List.all_eq_true.1 hargs z (List.mem_of_getElem? hz))
  have hcall := h S _ hok hG hrel;unfold zc0 at hent;split at hent
  ·rename_i fn hfn;simp only [Bool.and_eq_true, bne_iff_ne, ne_eq, Option.isSome_iff_exists] at hent;obtain ⟨hname, body, hbody⟩ := hent;have hn : (fn.name == "runtime.NumGoroutine") = false := by simpa using hname
   have hrun : (execOp act.eval o).run P S.w = .ok (.enter g (c.args.toList.map act.eval ++ caps).toArray) S.w := by
    have harr : c.args.map act.eval ++ caps.toArray = (c.args.toList.map act.eval ++ caps).toArray := by apply Array.ext'; simp
    simp only [execOp, ho, resolve, hc, hfe, Deferred.ofValue];simp [invoke, callFunc, hfn, hn, hbody];rw [← harr];simp;exact hname
   rw [Oper.semAt_eq _ _ _ (fun c' hc' => by rw [ho] at hc'; cases hc'), hrun];refine ⟨fun q => (by cases q), zar9 (hcall.mono fun e w' hh => ?_)⟩;obtain ⟨v, S', rfl, rfl, h2, h3, h4⟩ := hh;exact hK v S' h2 h3 h4
  ·cases hent
 | yield c f b ho hc hf hk hargs r H' h =>
  have hfv := (hρ f).strip hk;rw [hf] at hfv;simp only [Rel] at hfv;obtain ⟨l, hl, hfe⟩ := hfv;have hrel : RelL (S.env H) (c.args.toList.map fun x => (ev G a x).strip) (c.args.toList.map act.eval) := by
   refine RelL.mk (by simp) fun i x v hx hv => ?_;rw [List.getElem?_map] at hx hv;cases hz : c.args.toList[i]? with
   | none => rw [hz] at hx; cases hx
   | some z =>
    rw [hz] at hx hv;injection hx with hx; injection hv with hv; subst hx; subst hv
    exact (hρ z).strip (List.all_eq_true.1 hargs z (List.mem_of_getElem? hz))
  obtain ⟨fn, tmps, assign, body, hy, hround⟩ := h S _ l hok hG hrel hl;have hrun : (execOp act.eval o).run P S.w = .ok (.round l fn tmps assign body) S.w := by
   have harr : c.args.map act.eval = (c.args.toList.map act.eval).toArray := by apply Array.ext'; simp
   simp only [execOp, ho, resolve, hc, hfe, Deferred.ofValue];simp only [invoke, Sem.run_bind, Sem.run_pure, Result.andThen_ok];rw [← hy, ← harr];simp
  rw [Oper.semAt_eq _ _ _ (fun c' hc' => by rw [ho] at hc'; cases hc'), hrun];refine ⟨fun q => (by cases q), RoundIn.mono (F := fen ro) hround fun e w' hh => ?_⟩;obtain ⟨v, S', rfl, rfl, h2, h3, h4⟩ := hh;exact hK v S' h2 h3 h4
end Go.V
namespace Go.V
open Go
section
variable {P : Program} {S : St} {H : List Blk}
def bOwn (P : Program) (H : List Blk) (t : TypeId) (len : Nat) (parts : List (Nat × AV)) : Bool × AV × List Blk :=
 match shp P t with
 | .slice e =>
  match kc0 P e with
  | some E =>
   match zT0 H (fun i => some (i * E.sz, E.sz)) ((List.replicate len E.zero).flatten) parts with
   | some cs => (decide (len ≤ 16777216) && decide (len * E.sz ≤ 16777216) && E.zero.length == E.sz, .own H.length len len none, H ++ [.row E.sz e (vx0 E.sz len cs)])
   | none => bad3
  | none => bad3
 | _ => bad3
theorem vcQ9 (hok : S.Ok H) {t : TypeId} {len : Nat} {parts : List (Nat × AV)} {pv : Array (Nat × Value)} (hl : parts.length = pv.size)
  (hp : ∀ (i : Nat) (p : Nat × AV) (q : Nat × Value), parts[i]? = some p → pv.toList[i]? = some q → p.1 = q.1 ∧ Rel (S.env H) p.2 q.2) (h : (bOwn P H t len parts).1 = true) :
  qJ0 P S H (do pure (.value (← Instr.buildSlice t len pv))) (bOwn P H t len parts).2.1 (bOwn P H t len parts).2.2 := by
 unfold bOwn at *;cases hs : shp P t with
 | slice e =>
  obtain ⟨TT, hTT, hsh⟩ := xc0 hs (by simp);have hu := zi0 hTT hsh;simp only [hs] at h ⊢;cases hE : kc0 P e with
  | none => rw [hE] at h; cases h
  | some E =>
   obtain ⟨i, d, z, hi, hd, hz, h1, hEE⟩ := ve0 hE;have hzr : RelL (S.env H) E.zero z.cells.toList := by rw [hEE]; exact kl0 _ _
   simp only [hE] at h ⊢;cases hf : zT0 H (fun i => some (i * E.sz, E.sz)) (List.replicate len E.zero).flatten parts with
   | none => rw [hf] at h; cases h
   | some cs =>
    simp only [hf, Bool.and_eq_true, decide_eq_true_eq, beq_iff_eq] at h ⊢;obtain ⟨⟨hb0, hb⟩, hzl⟩ := h;have hzs : z.cells.size = E.sz := by rw [← hzl, hzr.length]; simp
    have hrel := xk0 hzr E.sz hzs len;have hone : ∀ u ∈ (madeCells z.cells (len * E.sz)).toList, u.oneCell' = true := by
     intro u hu;simp only [madeCells, Array.toList_map, Array.toList_range, List.mem_map, List.mem_range] at hu;obtain ⟨q, hq, rfl⟩ := hu;have hpos : 0 < z.cells.size := by
      rcases Nat.eq_zero_or_pos z.cells.size with h0|h0
      ·rw [← hzs, h0] at hq; simp at hq
      ·exact h0
     have hlt : q % z.cells.size < z.cells.size := Nat.mod_lt _ hpos;rw [getElem!_pos z.cells _ hlt];exact h1 _ (by simp)
    obtain ⟨C', hC', g1, g2, g3⟩ := qX0 parts pv.toList _ (madeCells z.cells (len * E.sz)) cs (by simpa using hl) hp hrel hone hf;have hcl : cs.length = len * E.sz := by rw [g1.length, Array.length_toList, g3, size_madeCells]
    have hEsz : E.sz = i.size := by rw [hEE]
    have hr : (Instr.buildSlice t len pv).run P S.w = .ok (.slice (some ⟨S.w.heap.size, 0, none⟩) len len) (S.fresh H.length len e C' 0).w := by
     have c1 : ¬ (len * E.sz > 2 ^ 24) := by omega
     by_cases h0 : len * E.sz = 0
     ·have hC0 : madeCells z.cells (len * E.sz) = (Array.range 0).map (fun x => (#[] : Array Value)[x % (#[] : Array Value).size]!) := by
       rw [h0]; simp [madeCells]
      rw [hC0] at hC';simp only [Instr.buildSlice, Sem.run_bind, run_underlying hu, vf0 hE, Result.andThen_ok, c1, if_false, h0, if_true, Sem.run_pure, newRow, run_newObj, Sem.run_ite];simp at hC';simp [hC', St.fresh, World.drewN]
     ·simp only [Instr.buildSlice, Sem.run_bind, run_underlying hu, vf0 hE, Result.andThen_ok, c1, if_false, h0, Sem.run_ite, Sem.run_pure];simp only [madeCells] at hC';simp [hC', St.fresh, World.drewN, zeroValue, typeInfo, hi, hz, newRow]
    refine ⟨_, .slice (some ⟨S.w.heap.size, 0, none⟩) len len, S.fresh H.length len e C' 0, ?_, .inl rfl, xaq9 hok 0 (by rw [km0]; exact Nat.le_refl _) (by simp only [maxLen]; omega) (by rw [← Array.length_toList, ← g1.length, hcl]) ?_, kI0 hok _ _ _, ?_⟩
    ·simp only [Sem.run_bind, hr, Result.andThen_ok, Sem.run_pure]
    ·intro j el hj;have hjl : j < len := by
      have := (List.getElem?_eq_some_iff.1 hj).1
      rwa [km0] at this
     rw [zae9 _ _ _ _ hjl] at hj;injection hj with hj
     subst hj;have hb2 : j * E.sz + E.sz ≤ len * E.sz := by
      rw [← Nat.succ_mul]; exact Nat.mul_le_mul_right _ hjl
     refine ⟨by simp; omega, fun q a hq => ?_⟩;rw [List.getElem?_take] at hq;split at hq
     ·rw [List.getElem?_drop] at hq;obtain ⟨v, hv, hr⟩ := g1.get hq;exact ⟨v, by simpa using hv, g2 v (List.mem_of_getElem? hv), hr⟩
     ·cases hq
    ·have hsh' : shOf (H ++ [.row E.sz e (vx0 E.sz len cs)]) H.length = some (E.sz, len) := by rw [kj0]; simp [km0]
     exact vh0 hsh' (Nat.le_refl _) (.inr ⟨S.w.heap.size, len, len, xs0 _ _ _ _ _, rfl, Nat.le_refl _, Nat.le_refl _, fun _ => rfl, fun j hj => by cases hj⟩)
 | _ => simp only [hs] at h; cases h
end
def isBs : Op → Bool
 | .buildSlice _ _ _ => true
 | _ => false
def zJ0 (P : Program) (o : Op) (ρ : Operand → AV) (H : List Blk) : Bool × AV × List Blk :=
 match o with
 | .buildSlice t len parts => ((parts.toList.all fun p => (ρ p.2).ok) && (bOwn P H t len (parts.toList.map fun p => (p.1, (ρ p.2).strip))).1, (bOwn P H t len (parts.toList.map fun p => (p.1, (ρ p.2).strip))).2)
 | _ => bad3
def OwnS (P : Program) (G : Glob) (o : Oper) (a : List AV) (H : List Blk) (r : AV) (H' : List Blk) : Prop :=
 o.guard = none ∧ isBs o.op = true ∧ (zJ0 P o.op (ev G a) H).1 = true ∧ r = (zJ0 P o.op (ev G a) H).2.1 ∧ H' = (zJ0 P o.op (ev G a) H).2.2
theorem xcq9 {P : Program} {S : St} {H : List Blk} (hok : S.Ok H) {ρ : Operand → AV} {ρv : Operand → Value} (hρ : ∀ x, Rel (S.env H) (ρ x) (ρv x)) (o : Oper) (h : (zJ0 P o.op ρ H).1 = true) :
  qJ0 P S H (execOp ρv o) (zJ0 P o.op ρ H).2.1 (zJ0 P o.op ρ H).2.2 := by
 obtain ⟨dst, op, type, pos, after, guard⟩ := o;simp only at h ⊢;have st : ∀ x, (ρ x).ok = true → Rel (S.env H) (ρ x).strip (ρv x) := fun x hx => (hρ x).strip hx;cases op with
 | buildSlice t len parts =>
  simp only [zJ0, execOp, Bool.and_eq_true, List.all_eq_true] at h ⊢;have key := vcQ9 (P := P) hok (t := t) (len := len) (parts := parts.toList.map fun p => (p.1, (ρ p.2).strip)) (pv := parts.map fun p => (p.1, ρv p.2)) (by simp) (fun i p q hp hq => by
   simp only [Array.toList_map, List.getElem?_map] at hp hq;cases hx : parts.toList[i]? with
   | none => rw [hx] at hp; cases hp
   | some z =>
    rw [hx] at hp hq;injection hp with hp; injection hq with hq; subst hp; subst hq
    exact ⟨rfl, st z.2 (h.1 z (List.mem_of_getElem? hx))⟩) h.2
  revert key
  generalize Instr.buildSlice t len _ = X;exact fun key => key
 | _ => cases h
theorem qdi9 {P : Program} {G : Glob} {S : St} {H H' : List Blk} {r : AV} {a : List AV} {act : Act} {o : Oper} (h : OwnS P G o a H r H') (hok : S.Ok H) (hG : Globs G S.M) (ha : RelL (S.env H) a act.tmps.toList)
  {K : Act → World → Prop} {Q : Exit → Act → World → Prop} (hK : ∀ v S', S'.Ok H' → Ext H.length S H S' H' → Rel (S'.env H') r v → K (act.put o.dst v) S'.w) {ro : Option Nat} : o.wpIn (fen ro) 0 P act S.w K Q := by
 have hρ := fun x => zaU9 (act := act) hG ha x;refine ⟨fun _ _ => trivial, ?_⟩;obtain ⟨_, hb, h1, rfl, rfl⟩ := h;obtain ⟨nx, v, S', h1, hnx, h2, h3, h4⟩ := xcq9 hok hρ o h1;rw [Oper.semAt_eq _ _ _ (fun c hc => by rw [hc] at hb; cases hb), h1];rcases hnx with rfl|⟨rfl, rfl⟩
 ·exact hK v S' h2 h3 h4
 ·exact hK undef S' h2 h3 h4
end Go.V
namespace Go.V
open Go Go.RowKit
def gOf (v : AV) (want : Bool) : Option Bool :=
 match v with
 | .bool b => some (b == want)
 | .opt g (.bool b) => some (g && (b == want))
 | .tup [] => some false
 | _ => none
def zU0 (ops : List Oper) (a : List AV) (j : Nat) (want : Bool) : Option Bool :=
 match ops[j]? with
 | some o =>
  match o.dst with
  | some d => gOf (getA a d) want
  | none => some false
 | none => some false
def kn0 (P : Program) (G : Glob) (ops : List Oper) (o : Oper) (a : List AV) (H : List Blk) (r : AV) (H' : List Blk) : Prop :=
 match o.guard with
 | none => xx0 P G o.op (ev G a) H r H'
 | some (j, want) => ∃ g, zU0 ops a j want = some g ∧
   ((g = true ∧ xx0 P G o.op (ev G a) H r H') ∨ (g = false ∧ r = .tup [] ∧ H' = H) ∨ (∃ v, r = .opt g v ∧ H' = H ∧ (g = true → xx0 P G o.op (ev G a) H v H)))
theorem xaU9 {ops : List Oper} {a : List AV} {E : Env} {act : Act} (ha : RelL E a act.tmps.toList) {o : Oper} {j : Nat} {want g : Bool} (hg : o.guard = some (j, want)) (h : zU0 ops a j want = some g) :
  Region.wanted o (yielded ops.toArray act.tmps) = g := by
 unfold Region.wanted;rw [hg];unfold zU0 at h;simp only [yielded, List.getElem?_toArray];cases ho : ops[j]? with
 | none =>
  rw [ho] at h; cases h; rfl
 | some o' =>
  rw [ho] at h;simp only at h;cases hd : o'.dst with
  | none =>
   rw [hd] at h; injection h with h; subst h
   simp [hd]
  | some d =>
   rw [hd] at h;simp only [gOf] at h;simp only [Option.bind_some, hd];have hr := vam9 ha d;have hl := ha.length;simp only [Array.length_toList] at hl;have hget : ∀ v, act.tmps.getD d undef = v → v ≠ undef → act.tmps[d]? = some v := by
    intro v hv hne;rw [Array.getD_eq_getD_getElem?] at hv;cases hq : act.tmps[d]? with
    | none => rw [hq] at hv; exact absurd hv.symm hne
    | some u => rw [hq] at hv; simp at hv; rw [hv]
   have hund : act.tmps.getD d undef = undef → act.tmps[d]? = none ∨ act.tmps[d]? = some undef := by
    intro hv;rw [Array.getD_eq_getD_getElem?] at hv;cases hq : act.tmps[d]? with
    | none => exact .inl rfl
    | some u => rw [hq] at hv; simp at hv; subst hv; exact .inr rfl
   split at h
   ·rename_i b hb;rw [hb] at hr;have hv : act.tmps.getD d undef = .bool b := by simpa [Rel] using hr
    injection h with h; subst h
    rw [hget _ hv (by simp [undef])];cases b <;> cases want <;> rfl
   ·rename_i g' b hb;rw [hb] at hr;simp only [Rel] at hr;injection h with h; subst h
    cases g' with
    | true =>
     have hv : act.tmps.getD d undef = .bool b := hr.1 rfl;rw [hget _ hv (by simp [undef])];cases b <;> cases want <;> rfl
    | false =>
     rcases hund (hr.2 rfl) with q|q <;> rw [q] <;> rfl
   ·rename_i hb;rw [hb] at hr;simp only [Rel] at hr;obtain ⟨vs, hv, hvs⟩ := hr;simp only [RelL] at hvs;subst hvs;injection h with h; subst h
    rcases hund (by rw [hv]; rfl) with q|q <;> rw [q] <;> rfl
   ·cases h
theorem kcQ9 {P : Program} {G : Glob} {S : St} {ops : List Oper} {H H' : List Blk} {r : AV} {a : List AV} {act : Act} {o : Oper} (h : OwnS P G o a H r H') (hok : S.Ok H) (hG : Globs G S.M) (ha : RelL (S.env H) a act.tmps.toList)
  {K : Act → World → Prop} {Q : Exit → Act → World → Prop} (hK : ∀ v S', S'.Ok H' → Ext H.length S H S' H' → Rel (S'.env H') r v → K (act.put o.dst v) S'.w) {ro : Option Nat} :
  (if Region.wanted o (yielded ops.toArray act.tmps) = true then o.wpIn (fen ro) 0 P act S.w K Q else (∀ f, o.about P S.w act.eval = some f → (fen ro).fn f) ∧ K (act.put o.dst undef) S.w) := by
 have hw : Region.wanted o (yielded ops.toArray act.tmps) = true := by simp [Region.wanted, h.1]
 rw [if_pos hw];exact qdi9 h hok hG ha hK
theorem xaJ9 {P : Program} {G : Glob} {S : St} {ops : List Oper} {H H' : List Blk} {r : AV} {a : List AV} {act : Act} {o : Oper} (h : kn0 P G ops o a H r H') (hok : S.Ok H) (hG : Globs G S.M) (ha : RelL (S.env H) a act.tmps.toList)
  {K : Act → World → Prop} {Q : Exit → Act → World → Prop} (hK : ∀ v S', S'.Ok H' → Ext H.length S H S' H' → Rel (S'.env H') r v → K (act.put o.dst v) S'.w) {ro : Option Nat} :
  (if Region.wanted o (yielded ops.toArray act.tmps) = true then o.wpIn (fen ro) 0 P act S.w K Q else (∀ f, o.about P S.w act.eval = some f → (fen ro).fn f) ∧ K (act.put o.dst undef) S.w) := by
 unfold kn0 at h;split at h
 ·rename_i hg;have hw : Region.wanted o (yielded ops.toArray act.tmps) = true := by simp [Region.wanted, hg]
  rw [if_pos hw];exact zaJ9 h hok hG ha hK
 ·rename_i j want hg;obtain ⟨g, hgb, hcase⟩ := h;have hw := xaU9 ha hg hgb;rw [hw];rcases hcase with ⟨rfl, h⟩|⟨rfl, rfl, rfl⟩|⟨v, rfl, rfl, h⟩
  ·exact zaJ9 h hok hG ha hK
  ·exact ⟨fun _ _ => trivial, hK undef S hok (Ext.refl _ _ _) (by simp [Rel, RelL, undef])⟩
  ·cases g with
   | true =>
    refine zaJ9 (h rfl) hok hG ha fun u S' h1 h2 h3 => hK u S' h1 h2 ?_;simp only [Rel];exact ⟨fun _ => h3, fun q => by cases q⟩
   | false =>
    refine ⟨fun _ _ => trivial, hK undef S hok (Ext.refl _ _ _) ?_⟩;simp only [Rel];exact ⟨fun q => (by cases q), fun _ => trivial⟩
def qcR9 (P : Program) (G : Glob) (ops : List Oper) (K : List AV → List Blk → Prop) : List Oper → List AV → List Blk → Prop
 | [], a, H => K a H
 | o :: rest, a, H => ∃ r H', (kn0 P G ops o a H r H' ∨ OwnS P G o a H r H') ∧ qcR9 P G ops K rest (putA a o.dst r) H'
def mark (g : Nat) : Deferred := { target := .collected g, args := #[] }
def St.Free (S : St) (H : List Blk) (g : Nat) : Prop := ¬ S.Owns H g ∧ S.M g = none
theorem St.Free.ext {n0 : Nat} {S S' : St} {H H' : List Blk} {g : Nat} (h : S.Free H g) (hg : g < S.w.heap.size) (he : Ext n0 S H S' H') : S'.Free H' g ∧ S'.w.heap[g]? = S.w.heap[g]? := by
 refine ⟨⟨fun q => ?_, ?_⟩, he.keep g hg h.1⟩
 ·rcases he.own g q with q|q
  ·exact h.1 q
  ·omega
 ·cases hM : S'.M g with
  | none => rfl
  | some o =>
   rcases he.dom g (by rw [hM]; simp) with q|q|q
   ·exact absurd h.2 q
   ·exact absurd q h.1
   ·omega
def Marks (S : St) (ds : List Deferred) (S' : St) (H' : List Blk) (ds' : List Deferred) : Prop :=
 ∃ Ds : List Nat, ds' = Ds.map mark ++ ds ∧ Ds.Pairwise (fun x y => y < x) ∧ ∀ g ∈ Ds, S.w.heap.size ≤ g ∧ S'.Free H' g ∧ S'.w.heap[g]? = some (.deferred (some []))
theorem Marks.refl (S S' : St) (H' : List Blk) (ds : List Deferred) : Marks S ds S' H' ds := ⟨[], rfl, .nil, fun _ h => by cases h⟩
theorem Marks.mono {n0 : Nat} {S S1 S2 : St} {H1 H2 : List Blk} {ds ds' : List Deferred} (h : Marks S ds S1 H1 ds') (he : Ext n0 S1 H1 S2 H2) : Marks S ds S2 H2 ds' := by
 obtain ⟨D, e, p, q⟩ := h;refine ⟨D, e, p, fun g hg => ?_⟩;obtain ⟨q1, q2, q3⟩ := q g hg;obtain ⟨r1, r2⟩ := q2.ext (Array.getElem?_eq_some_iff.1 q3).1 he;exact ⟨q1, r1, r2.trans q3⟩
theorem Marks.trans {n0 : Nat} {S S1 S2 : St} {H1 H2 : List Blk} {ds ds1 ds2 : List Deferred} (h : Marks S ds S1 H1 ds1) (k : Marks S1 ds1 S2 H2 ds2) (hsz : S.w.heap.size ≤ S1.w.heap.size) (he : Ext n0 S1 H1 S2 H2) : Marks S ds S2 H2 ds2 := by
 obtain ⟨D1, e1, p1, q1'⟩ := h.mono he;have h1 : ∀ g ∈ D1, g < S1.w.heap.size := fun g hg => by
  obtain ⟨D1', e1', _, q⟩ := h;have : D1' = D1 := by
   rw [e1] at e1';have := List.append_cancel_right e1';exact (List.map_inj_right (f := mark) fun x y hxy => by simpa [mark] using hxy).1 this.symm
  subst this;exact (Array.getElem?_eq_some_iff.1 (q g hg).2.2).1
 obtain ⟨D2, e2, p2, q2⟩ := k;refine ⟨D2 ++ D1, by rw [e2, e1]; simp, List.pairwise_append.2 ⟨p2, p1, fun x hx y hy => ?_⟩, fun g hg => ?_⟩
 ·have := (q2 x hx).1;have := h1 y hy;omega
 ·rcases List.mem_append.1 hg with h|h
  ·exact ⟨Nat.le_trans hsz (q2 g h).1, (q2 g h).2⟩
  ·exact q1' g h
def Ends (G : Glob) (n0 : Nat) (S : St) (H : List Blk) (ds : List Deferred) (Q : List AV → List Blk → Prop) (act : Act) (w : World) : Prop :=
 ∃ a' H' S', S'.w = w ∧ Q a' H' ∧ S'.Ok H' ∧ Ext n0 S H S' H' ∧ RelL (S'.env H') a' act.tmps.toList ∧ Marks S ds S' H' act.defers
theorem xar9 {P : Program} {G : Glob} {n0 : Nat} {S0 : St} {H0 : List Blk} {ops : List Oper} {K : List AV → List Blk → Prop} {ds : List Deferred} {Q : Exit → Act → World → Prop} {ro : Option Nat}
  (hQ : ∀ act w, Ends G n0 S0 H0 ds K act w → Q .normal act w) :
  ∀ (l : List Oper) (k : Nat) (a : List AV) (H : List Blk) (S : St) (act : Act), (∀ j, l[j]? = ops[k + j]?) → qcR9 P G ops K l a H → S.Ok H → Globs G S.M → n0 ≤ H.length → Ext n0 S0 H0 S H → RelL (S.env H) a act.tmps.toList → Marks S0 ds S H act.defers →
   wpOpsIn (fen ro) 0 P ops.toArray Q (List.range' k l.length) act S.w
 | [], k, a, H, S, act, hl, hc, hok, hG, hn, hext, ha, hd => hQ _ _ ⟨a, H, S, rfl, hc, hok, hext, ha, hd⟩
 | o :: l, k, a, H, S, act, hl, hc, hok, hG, hn, hext, ha, hd => by
  obtain ⟨r, H', hs, hc'⟩ := hc;have h0 : ops.toArray[k]? = some o := by have := hl 0; simpa using this.symm
  have hgo : ∀ v S', S'.Ok H' → Ext H.length S H S' H' → Rel (S'.env H') r v → wpOpsIn (fen ro) 0 P ops.toArray Q (List.range' (k + 1) l.length) (act.put o.dst v) S'.w := fun v S' h1 h2 h3 => by
   have hlen : H.length ≤ H'.length := h2.len (Nat.le_refl _);exact xar9 hQ l (k + 1) _ H' S' _ (fun j => by have := hl (j + 1); simpa [Nat.add_assoc, Nat.add_comm 1 j] using this) hc' h1 (hG.mono h2.M) (by omega) (hext.trans (h2.less hn (Nat.le_refl _))) (kam9 (RelL.mono (h2.le (Nat.le_refl _)) _ _ ha) _ h3) (by
    have e : (act.put o.dst v).defers = act.defers := by cases o.dst <;> rfl
    rw [e]; exact hd.mono h2)
  have hs1 := hs.elim (fun hs => xaJ9 (Q := Q) (ro := ro) (ops := ops) hs hok hG ha hgo) (fun hs => kcQ9 (Q := Q) (ro := ro) (ops := ops) hs hok hG ha hgo);simp only [List.length_cons, List.range'_succ, wpOpsIn, h0];exact hs1
section congr
variable {P : Program} {G : Glob} {H : List Blk} {ρ ρ' : Operand → AV}
theorem zN0 {β : Type} (l : List Operand) (f : AV → β) (h : ∀ x ∈ l, ρ x = ρ' x) : (l.map fun x => f (ρ x)) = l.map fun x => f (ρ' x) :=
 List.map_congr_left fun x hx => by rw [h x hx]
theorem xN0 (l : List Operand) (h : ∀ x ∈ l, ρ x = ρ' x) : (l.all fun x => (ρ x).ok) = l.all fun x => (ρ' x).ok := by
 induction l with
 | nil => rfl
 | cons x l ih => simp [h x (by simp), ih fun y hy => h y (List.mem_cons_of_mem _ hy)]
theorem war9 (l : List (Nat × Operand)) (h : ∀ x ∈ l.map (·.2), ρ x = ρ' x) : (l.map fun p => (p.1, (ρ p.2).strip)) = l.map fun p => (p.1, (ρ' p.2).strip) :=
 List.map_congr_left fun p hp => by rw [h p.2 (List.mem_map.2 ⟨p, hp, rfl⟩)]
theorem waU9 (l : List (Nat × Operand)) (h : ∀ x ∈ l.map (·.2), ρ x = ρ' x) : (l.all fun p => (ρ p.2).ok) = l.all fun p => (ρ' p.2).ok := by
 induction l with
 | nil => rfl
 | cons p l ih => simp [h p.2 (by simp), ih fun y hy => h y (by simp at hy ⊢; exact .inr hy)]
theorem xbi9 (o : Op) (h : ∀ x ∈ o.operands, ρ x = ρ' x) : zf0 P o ρ H = zf0 P o ρ' H := by
 cases o with
 | move x => simp only [zf0, h x (by simp [Op.operands])]
 | assign x => simp only [zf0, h x (by simp [Op.operands])]
 | pick c x y => simp only [zf0, h c (by simp [Op.operands]), h x (by simp [Op.operands]), h y (by simp [Op.operands])]
 | load t p => simp only [zf0, h p (by simp [Op.operands])]
 | nilCheck x => simp only [zf0, h x (by simp [Op.operands])]
 | fieldAddr s x f => simp only [zf0, h x (by simp [Op.operands])]
 | field s x f => simp only [zf0, h x (by simp [Op.operands])]
 | indexAddr t x i => simp only [zf0, h x (by simp [Op.operands]), h i (by simp [Op.operands])]
 | index t x i => simp only [zf0, h x (by simp [Op.operands]), h i (by simp [Op.operands])]
 | lookup t x i ok => simp only [zf0, h x (by simp [Op.operands]), h i (by simp [Op.operands])]
 | binOp op t x y yt =>
  simp only [zf0];split
  ·simp only [h x (by simp [Op.operands])]
  ·simp only [h x (by simp [Op.operands]), h y (by simp [Op.operands])]
 | unOp op t x => simp only [zf0, h x (by simp [Op.operands])]
 | convert s d x => simp only [zf0, h x (by simp [Op.operands])]
 | extract x i => simp only [zf0, h x (by simp [Op.operands])]
 | slice t x lo hi mx =>
  have hx := h x (by simp [Op.operands]);have ho : ∀ (y : Option Operand), (∀ z, y = some z → ρ z = ρ' z) → (y.map fun z => (ρ z).strip) = (y.map fun z => (ρ' z).strip) ∧ (y.all fun z => (ρ z).ok) = (y.all fun z => (ρ' z).ok) := fun y hy => by
   cases y with
   | none => exact ⟨rfl, rfl⟩
   | some z => simp [hy z rfl]
  have h1 := ho lo fun z hz => h z (by simp [Op.operands, hz]);have h2 := ho hi fun z hz => h z (by simp [Op.operands, hz]);have h3 := ho mx fun z hz => h z (by simp [Op.operands, hz]);simp only [zf0, hx, h1.1, h1.2, h2.1, h2.2, h3.1, h3.2]
 | build t ps =>
  have hp : ∀ x ∈ ps.toList.map (·.2), ρ x = ρ' x := fun x hx => h x (by simpa [Op.operands] using hx);simp only [zf0, war9 _ hp, waU9 _ hp]
 | buildSlice t n ps =>
  have hp : ∀ x ∈ ps.toList.map (·.2), ρ x = ρ' x := fun x hx => h x (by simpa [Op.operands] using hx);simp only [zf0, war9 _ hp, waU9 _ hp]
 | makeFunc fn first captured =>
  have hc : ∀ x ∈ captured.toList, ρ x = ρ' x := fun x hx => h x (by simp [Op.operands]; exact .inr (by simpa using hx));have hc2 : ∀ x ∈ first.toList, ρ x = ρ' x := fun x hx => h x (by simp [Op.operands]; exact .inl (by simpa using hx))
  cases fn with
  | func f =>
   cases hf : first.toList with
   | nil => simp only [zf0, hf, zN0 _ AV.strip hc, xN0 _ hc]
   | cons x0 xs =>
    rw [hf] at hc2;simp only [zf0, hf, zN0 _ AV.strip hc2, xN0 _ hc2]
  | _ => simp only [zf0]
 | call c =>
  obtain ⟨callee, args, ts⟩ := c;cases callee with
  | builtin b =>
   have ha : ∀ x ∈ args.toList, ρ x = ρ' x := fun x hx => h x (by simp [Op.operands, Call.operands]; simpa using hx);cases b with
   | len => simp only [zf0]; split <;> first|(rename_i e _; rw [e] at ha; simp only [ha _ (List.mem_cons_self)])|rfl
   | cap => simp only [zf0]; split <;> first|(rename_i e _; rw [e] at ha; simp only [ha _ (List.mem_cons_self)])|rfl
   | max => simp only [zf0]; split <;> first|(rename_i x y e; rw [e] at ha; simp only [ha x (by simp), ha y (by simp)])|rfl
   | min => simp only [zf0]; split <;> first|(rename_i x y e; rw [e] at ha; simp only [ha x (by simp), ha y (by simp)])|rfl
   | _ => rfl
  | _ => rfl
 | _ => rfl
theorem wbi9 (o : Op) (h : ∀ x ∈ o.operands, ρ x = ρ' x) : xg0 P o ρ H = xg0 P o ρ' H := by
 cases o with
 | box t x => simp only [xg0, h x (by simp [Op.operands])]
 | store t p x => simp only [xg0, h p (by simp [Op.operands]), h x (by simp [Op.operands])]
 | makeSlice t l c => simp only [xg0, h l (by simp [Op.operands]), h c (by simp [Op.operands])]
 | makeMap t r =>
  cases r with
  | none => rfl
  | some z => simp [xg0, h z (by simp [Op.operands])]
 | mapUpdate t m k x => simp only [xg0, h m (by simp [Op.operands]), h k (by simp [Op.operands]), h x (by simp [Op.operands])]
 | insert t m k x => simp only [xg0, h m (by simp [Op.operands]), h k (by simp [Op.operands]), h x (by simp [Op.operands])]
 | call c =>
  obtain ⟨callee, args, ts⟩ := c;cases callee with
  | builtin b =>
   have ha : ∀ x ∈ args.toList, ρ x = ρ' x := fun x hx => h x (by simp [Op.operands, Call.operands]; simpa using hx);cases b <;> first
    | rfl
    | (simp only [xg0]; split <;> first|(rename_i d x t t1 e _; rw [e] at ha; simp only [ha d (by simp), ha x (by simp)])|rfl)
  | _ => rfl
 | _ => rfl
theorem wu0 {o : Op} {r : AV} {H' : List Blk} (h : ∀ x ∈ o.operands, ρ x = ρ' x) (hs : xx0 P G o ρ H r H') : xx0 P G o ρ' H r H' := by
 cases hs with
 | pure h1 => rw [xbi9 o h] at h1 ⊢; exact .pure h1
 | eff he h1 => rw [wbi9 o h] at h1 ⊢; exact .eff he h1
 | mkat he b r H' h1 => exact .mkat he b r H' (vae9 h h1)
 | made he r h1 => exact .made he r fun oo ho S ρv hok hr => h1 oo ho S ρv hok fun x hx => by rw [h x hx]; exact hr x hx
 | call c f g cap ho hc hf hk hent hargs r H' h1 =>
  have hff : ρ f = ρ' f := h f (by simp [ho, Op.operands, Call.operands, hc]);have ha : ∀ x ∈ c.args.toList, ρ x = ρ' x := fun x hx => h x (by
   rw [ho]; simp only [Op.operands, Call.operands]; exact Array.mem_append.2 (.inr (by simpa using hx)))
  rw [hff] at hf hk;rw [xN0 _ ha] at hargs;rw [zN0 _ AV.strip ha] at h1;exact .call c f g cap ho hc hf hk hent hargs r H' h1
 | yield c f b ho hc hf hk hargs r H' h1 =>
  have hff : ρ f = ρ' f := h f (by simp [ho, Op.operands, Call.operands, hc]);have ha : ∀ x ∈ c.args.toList, ρ x = ρ' x := fun x hx => h x (by
   rw [ho]; simp only [Op.operands, Call.operands]; exact Array.mem_append.2 (.inr (by simpa using hx)))
  rw [hff] at hf hk;rw [xN0 _ ha] at hargs;rw [zN0 _ AV.strip ha] at h1;exact .yield c f b ho hc hf hk hargs r H' h1
end congr
section
variable {P : Program} {G : Glob} {ops : List Oper} {md : Region.Mode} {q : Operand → Bool}
theorem vbP9 {a : List AV} {d : Option Tmp} {v : AV} {x : Operand} (h : ∀ t, d = some t → x ≠ .tmp t) : ev G (putA a d v) x = ev G a x := by
 cases x with
 | tmp t =>
  cases d with
  | none => rfl
  | some e => exact waj9 v fun q => h e rfl (by rw [q])
 | _ => rfl
theorem qc0 {o : Oper} {a : List AV} {H H' : List Blk} {r v : AV} {d : Option Tmp} (h : ∀ t, d = some t → t ∉ o.looksAt ops.toArray) :
  (kn0 P G ops o (putA a d v) H r H' → kn0 P G ops o a H r H') ∧ (kn0 P G ops o a H r H' → kn0 P G ops o (putA a d v) H r H') := by
 have hop : ∀ x ∈ o.op.operands, ev G (putA a d v) x = ev G a x := fun x hx => vbP9 fun t ht hxt => h t ht (by
  subst hxt;exact List.mem_append_left _ (List.mem_filterMap.2 ⟨.tmp t, by simpa using hx, rfl⟩))
 have hg : ∀ j want, o.guard = some (j, want) → zU0 ops (putA a d v) j want = zU0 ops a j want := fun j want hj => by
  unfold zU0;cases ho : ops[j]? with
  | none => rfl
  | some o' =>
   cases hd : o'.dst with
   | none => simp [hd]
   | some e =>
    simp only [hd];cases d with
    | none => rfl
    | some t =>
     rw [waj9 v fun q => h t rfl (by
      subst q;refine List.mem_append_right _ ?_;rw [hj];simp [ho, hd])]
 constructor
 ·intro hs;unfold kn0 at *;split at hs
  ·exact wu0 hop hs
  ·rename_i j want hgd;rw [hg j want hgd] at hs;obtain ⟨g, h1, h2⟩ := hs;refine ⟨g, h1, ?_⟩;rcases h2 with ⟨e, h2⟩|h2|⟨v', e1, e2, h2⟩
   ·exact .inl ⟨e, wu0 hop h2⟩
   ·exact .inr (.inl h2)
   ·exact .inr (.inr ⟨v', e1, e2, fun q => wu0 hop (h2 q)⟩)
 ·intro hs;have hop' : ∀ x ∈ o.op.operands, ev G a x = ev G (putA a d v) x := fun x hx => (hop x hx).symm;unfold kn0 at *;split at hs
  ·exact wu0 hop' hs
  ·rename_i j want hgd;rw [hg j want hgd];obtain ⟨g, h1, h2⟩ := hs;refine ⟨g, h1, ?_⟩;rcases h2 with ⟨e, h2⟩|h2|⟨v', e1, e2, h2⟩
   ·exact .inl ⟨e, wu0 hop' h2⟩
   ·exact .inr (.inl h2)
   ·exact .inr (.inr ⟨v', e1, e2, fun q => wu0 hop' (h2 q)⟩)
def zB0 : Op → Bool
 | .move _|.assign _|.pick ..|.field ..|.index ..|.unOp ..|.convert ..|.extract .. => true
 | .binOp op _ _ y _ => (kad9 op y).isNone
 | _ => false
theorem zaz9 {o : Op} (h : zB0 o = true) (ρ : Operand → AV) (H H' : List Blk) : zf0 P o ρ H = zf0 P o ρ H' := by
 cases o with
 | binOp op t x y yt =>
  simp only [zB0, Option.isNone_iff_eq_none] at h;simp only [zf0, h]
 | _ => first|rfl|cases h
theorem xC0 {o : Op} (h : zB0 o = true) {ρ : Operand → AV} {H H' : List Blk} {r : AV} (hs : xx0 P G o ρ H r H') : H' = H ∧ ∀ H2, xx0 P G o ρ H2 r H2 := by
 cases hs with
 | pure h1 => exact ⟨rfl, fun H2 => by rw [zaz9 h ρ H H2] at h1 ⊢; exact .pure h1⟩
 | eff he h1 => exfalso; cases o <;> first|exact Bool.noConfusion he|exact Bool.noConfusion h
 | made he r h1 => exfalso; cases o <;> first|exact Bool.noConfusion he|exact Bool.noConfusion h
 | mkat he b r H' h1 => exfalso; cases o <;> first|exact Bool.noConfusion he|exact Bool.noConfusion h
 | call c f g cap ho => subst ho; cases h
 | yield c f b ho => subst ho; cases h
theorem wv0 {o : Oper} (h : zB0 o.op = true) {a : List AV} {H H' : List Blk} {r : AV} (hs : kn0 P G ops o a H r H') : H' = H ∧ ∀ H2, kn0 P G ops o a H2 r H2 := by
 unfold kn0 at *;split at hs
 ·exact xC0 h hs
 ·obtain ⟨g, h1, h2⟩ := hs;rcases h2 with ⟨e, h2⟩|⟨e1, e2, e3⟩|⟨v', e1, e2, h2⟩
  ·obtain ⟨q1, q2⟩ := xC0 h h2;exact ⟨q1, fun H2 => ⟨g, h1, .inl ⟨e, q2 H2⟩⟩⟩
  ·exact ⟨e3, fun H2 => ⟨g, h1, .inr (.inl ⟨e1, e2, rfl⟩)⟩⟩
  ·exact ⟨e2, fun H2 => ⟨g, h1, .inr (.inr ⟨v', e1, rfl, fun q => (xC0 h (h2 q)).2 H2⟩)⟩⟩
def mkF (q : Operand → Bool) : Bool := q (.global 0) && !q (.global 1)
def effD (q : Operand → Bool) (o : Op) : Bool := (wA0 o && !(isMk o && mkF q)) || (match o with|.call { callee := .value f, .. } => !q f|_ => false)
def vbi9 (q : Operand → Bool) (oi oj : Op) : Bool := (!effD q oi && !effD q oj) || zB0 oi || zB0 oj
def vaU9 (P : Program) (G : Glob) (q : Operand → Bool) (ops : List Oper) (o : Oper) (a : List AV) (H : List Blk) (r : AV) (H' : List Blk) : Prop := kn0 P G ops o a H r H' ∧ (effD q o.op = false → H' = H)
def AAny (P : Program) (G : Glob) (q : Operand → Bool) (ops : List Oper) (md : Region.Mode) (K : List AV → List Blk → Prop) : Nat → Array Bool → List AV → List Blk → Prop
 | 0, listed, a, H => Region.ready md ops.toArray listed = [] ∧ K a H
 | fuel + 1, listed, a, H => (Region.ready md ops.toArray listed = [] → K a H) ∧
   ∀ i ∈ Region.ready md ops.toArray listed, ∃ o, ops[i]? = some o ∧ ∃ r H', vaU9 P G q ops o a H r H' ∧ AAny P G q ops md K fuel (listed.setIfInBounds i true) (putA a o.dst r) H'
def kR0 (md : Region.Mode) (ops : List Oper) (listed : Array Bool) : Prop :=
 ∀ k o, ops[k]? = some o → listed.getD k false = true → ∀ e ∈ o.after, Region.binds md e = true → listed.getD e.on false = true
def maskOf (md : Region.Mode) (T : Nat) : List Edge → Nat → Nat
 | [], m => m
 | e :: es, m => maskOf md T es (if Region.binds md e = true then m ||| (1 <<< e.on) ||| ((T >>> (e.on * 256)) % 2 ^ 256) else m)
def ancT (md : Region.Mode) : List Oper → Nat → Nat → Nat
 | [], _, T => T
 | o :: r, k, T =>
  match T ||| ((maskOf md T o.after.toList 0 % 2 ^ 256) <<< (k * 256)) with
  | 0 => ancT md r (k + 1) 0
  | n + 1 => ancT md r (k + 1) (n + 1)
def kbP9 (md : Region.Mode) (ops : List Oper) (j i : Nat) : Prop :=
 ∀ listed, kR0 md ops listed → (∀ o, ops[j]? = some o → ∀ e ∈ o.after, Region.binds md e = true → listed.getD e.on false = true) → listed.getD i false = true
def kae9 (md : Region.Mode) (ops : List Oper) (T : Nat) : Prop := ∀ j i, i < 256 → T.testBit (j * 256 + i) = true → kbP9 md ops j i
theorem qbQ9 {T j : Nat} {o : Oper} (ho : ops[j]? = some o) (hT : kae9 md ops T) : ∀ (es : List Edge) (m : Nat), (∀ e ∈ es, e ∈ o.after) → (∀ i, i < 256 → m.testBit i = true → kbP9 md ops j i) →
  ∀ i, i < 256 → (maskOf md T es m).testBit i = true → kbP9 md ops j i
 | [], m, _, hm, i, hi, h => hm i hi h
 | e :: es, m, hes, hm, i, hi, h => by
  refine qbQ9 ho hT es _ (fun e he => hes e (List.mem_cons_of_mem _ he)) (fun i hi h => ?_) i hi h;split at h
  ·rename_i hb;simp only [Nat.testBit_or, Bool.or_eq_true] at h;have hmem := hes e (List.mem_cons_self);rcases h with (h|h)|h
   ·exact hm i hi h
   ·rw [Nat.one_shiftLeft, Nat.testBit_two_pow] at h;have : e.on = i := by simpa using h
    subst this;exact fun listed hc hp => hp o ho e hmem hb
   ·rw [Nat.testBit_mod_two_pow, Nat.testBit_shiftRight] at h;simp only [Bool.and_eq_true] at h;have hr := hT e.on i hi h.2;exact fun listed hc hp => hr listed hc fun o' ho' e' he' hb' => hc e.on o' ho' (hp o ho e hmem hb) e' he' hb'
  ·exact hm i hi h
theorem waJ9 : ∀ (l : List Oper) (k T : Nat), (∀ j, l[j]? = ops[k + j]?) → kae9 md ops T → kae9 md ops (ancT md l k T)
 | [], k, T, _, hT => hT
 | o :: l, k, T, hl, hT => by
  have ho : ops[k]? = some o := by have := hl 0; simpa using this.symm
  have hT' : kae9 md ops (T ||| ((maskOf md T o.after.toList 0 % 2 ^ 256) <<< (k * 256))) := fun j i hi h => by
   simp only [Nat.testBit_or, Bool.or_eq_true, Nat.testBit_shiftLeft, Nat.testBit_mod_two_pow, Bool.and_eq_true, decide_eq_true_eq] at h;rcases h with h|⟨h1, h2, h3⟩
   ·exact hT j i hi h
   ·have hjk : j = k := by omega
    subst hjk;have e : j * 256 + i - j * 256 = i := by omega
    rw [e] at h3;exact qbQ9 ho hT o.after.toList 0 (fun e he => by simpa using he) (fun i hi h => by simp at h) i hi h3
  unfold ancT;split
  ·rename_i h0;rw [h0] at hT';exact waJ9 l (k + 1) 0 (fun j => by have := hl (j + 1); simpa [Nat.add_assoc, Nat.add_comm 1 j] using this) hT'
  ·rename_i n hn;rw [hn] at hT';exact waJ9 l (k + 1) (n + 1) (fun j => by have := hl (j + 1); simpa [Nat.add_assoc, Nat.add_comm 1 j] using this) hT'
theorem var9 {listed : Array Bool} {T : Nat} (hT : kae9 md ops T) (hc : kR0 md ops listed) {j i : Nat} (hi : i < 256) (hj : j ∈ Region.ready md ops.toArray listed) (h : T.testBit (j * 256 + i) = true) : listed.getD i false = true := by
 obtain ⟨_, oj, hoj, hall⟩ := mem_ready.1 hj;exact hT j i hi h listed hc fun o ho e he hb => by
  have : ops[j]? = some oj := by simpa using hoj
  rw [this] at ho; injection ho with ho; subst ho
  exact hall e he hb
theorem xD0 {listed : Array Bool} (hc : kR0 md ops listed) {j : Nat} (hj : j ∈ Region.ready md ops.toArray listed) : kR0 md ops (listed.setIfInBounds j true) := by
 intro k o ho hk e he hb;obtain ⟨_, oj, hoj, hall⟩ := mem_ready.1 hj;by_cases hkj : j = k
 ·subst hkj;have : ops[j]? = some oj := by simpa using hoj
  rw [ho] at this; injection this with this; subst this
  exact getD_set_true (hall e he hb)
 ·rw [getD_set_ne false hkj] at hk;exact getD_set_true (hc k o ho hk e he hb)
theorem zaD9 {listed : Array Bool} {i : Nat} (h : listed.getD i true = false) : listed.getD i false ≠ true := by
 rcases Nat.lt_or_ge i listed.size with h'|h'
 ·simp [h'] at h ⊢; exact h
 ·simp [Array.getElem?_eq_none h'] at h
theorem wbD9 {K : List AV → List Blk → Prop} {i : Nat} {oi : Oper} {r : AV} {N : Nat} (hT : kae9 md ops N) (hi256 : i < 256) (hi : ops[i]? = some oi) :
  ∀ (fuel : Nat) (listed : Array Bool) (a : List AV) (H H' : List Blk), kR0 md ops listed →
   (∀ j oj, ops[j]? = some oj → j ≠ i → listed.getD j true = false → N.testBit (j * 256 + i) = true ∨ (vbi9 q oi.op oj.op = true ∧ oi.apart ops.toArray oj = true)) →
   i ∈ Region.ready md ops.toArray listed → vaU9 P G q ops oi a H r H' → AAny P G q ops md K fuel (listed.setIfInBounds i true) (putA a oi.dst r) H' → AAny P G q ops md K (fuel + 1) listed a H := by
 intro fuel;induction fuel with
 | zero =>
  intro listed a H H' hc hfree hr hs hA;refine ⟨fun h => (by rw [h] at hr; cases hr), fun j hj => ?_⟩;by_cases hji : j = i
  ·subst hji; exact ⟨oi, hi, r, H', hs, hA⟩
  ·have := ready_mono hj hji;rw [hA.1] at this;cases this
 | succ fuel ih =>
  intro listed a H H' hc hfree hr hs hA;refine ⟨fun h => (by rw [h] at hr; cases hr), fun j hj => ?_⟩;by_cases hji : j = i
  ·subst hji; exact ⟨oi, hi, r, H', hs, hA⟩
  ·obtain ⟨hjun, oj', hoj', hall⟩ := mem_ready.1 hj;have hoj : ops[j]? = some oj' := by simpa using hoj'
   rcases hfree j oj' hoj hji hjun with hre|⟨hsw, hap⟩
   ·exact absurd (var9 hT hc hi256 hj hre) (zaD9 (mem_ready.1 hr).1)
   ·obtain ⟨oj, hoj2, rj, Hj, hsj, hAj⟩ := hA.2 j (ready_mono hj hji);rw [hoj] at hoj2; injection hoj2 with hoj2; subst hoj2
    obtain ⟨a1, a2, a3⟩ := Oper.apart_spec hap;have key : ∃ Hm, vaU9 P G q ops oj' a H rj Hm ∧ vaU9 P G q ops oi (putA a oj'.dst rj) Hm r Hj := by
     simp only [vbi9, Bool.or_eq_true, Bool.and_eq_true, Bool.not_eq_true'] at hsw;rcases hsw with (⟨p1, p2⟩|hp)|hp
     ·have e1 : H' = H := hs.2 p1;subst e1;have e2 : Hj = H' := hsj.2 p2;subst e2;exact ⟨Hj, ⟨(qc0 a1).1 hsj.1, fun _ => rfl⟩, ⟨(qc0 a3).2 hs.1, fun _ => rfl⟩⟩
     ·obtain ⟨e1, q⟩ := wv0 hp hs.1;subst e1;exact ⟨Hj, ⟨(qc0 a1).1 hsj.1, hsj.2⟩, ⟨(qc0 a3).2 (q Hj), fun _ => rfl⟩⟩
     ·obtain ⟨e1, q⟩ := wv0 hp hsj.1;subst e1;exact ⟨H, ⟨(qc0 a1).1 (q H), fun _ => rfl⟩, ⟨(qc0 a3).2 hs.1, hs.2⟩⟩
    obtain ⟨Hm, hsj', hsi'⟩ := key;refine ⟨oj', hoj, rj, Hm, hsj', ?_⟩;refine ih (listed.setIfInBounds j true) _ _ _ (xD0 hc hj) (fun k ok hk hki hun => ?_) (ready_mono hr (Ne.symm hji)) hsi' ?_
    ·refine hfree k ok hk hki ?_;by_cases hjk : j = k
     ·subst hjk; exact hjun
     ·rw [getD_set_ne true hjk] at hun; exact hun
    ·rw [Array.setIfInBounds_comm _ _ hji, ← qaU9 a r rj a2];exact hAj
def lexE (q : Operand → Bool) (md : Region.Mode) (ops : Array Oper) (T : Nat) : Nat → Nat → Array Bool → Bool
 | 0, _, listed => (Region.ready md ops listed).isEmpty
 | n + 1, k, listed => decide (k < 256) && (Region.ready md ops listed).contains k &&
   ((List.range ops.size).all fun j => j == k || listed.getD j true || T.testBit (j * 256 + k) ||
    (match ops[k]?, ops[j]? with|some ok, some oj => vbi9 q ok.op oj.op && ok.apart ops oj|_, _ => false)) &&
   lexE q md ops T n (k + 1) (listed.setIfInBounds k true)
def qaf9 (q : Operand → Bool) (ops : List Oper) : Bool :=
 match ancT .any ops 0 0 with
 | 0 => lexE q .any ops.toArray 0 ops.length 0 (Array.replicate ops.length false)
 | n + 1 => lexE q .any ops.toArray (n + 1) ops.length 0 (Array.replicate ops.length false)
theorem kbi9 {q : Operand → Bool} {ops : List Oper} (h : qaf9 q ops = true) : ∃ T, kae9 .any ops T ∧ lexE q .any ops.toArray T ops.length 0 (Array.replicate ops.length false) = true := by
 have hT : kae9 .any ops (ancT .any ops 0 0) := waJ9 ops 0 0 (fun j => by simp) fun j i _ h => by simp at h
 unfold qaf9 at h;split at h
 ·rename_i h0; rw [h0] at hT; exact ⟨0, hT, h⟩
 ·rename_i n hn; rw [hn] at hT; exact ⟨n + 1, hT, h⟩
def zbQ9 (P : Program) (G : Glob) (q : Operand → Bool) (ops : List Oper) (K : List AV → List Blk → Prop) : List Oper → List AV → List Blk → Prop
 | [], a, H => K a H
 | o :: rest, a, H => ∃ r H', vaU9 P G q ops o a H r H' ∧ zbQ9 P G q ops K rest (putA a o.dst r) H'
theorem xaD9 {K : List AV → List Blk → Prop} {T : Nat} (hT : kae9 md ops T) : ∀ (l : List Oper) (k : Nat) (listed : Array Bool) (a : List AV) (H : List Blk), (∀ j, l[j]? = ops[k + j]?) → lexE q md ops.toArray T l.length k listed = true → kR0 md ops listed →
  zbQ9 P G q ops K l a H → AAny P G q ops md K l.length listed a H
 | [], k, listed, a, H, _, hB, _, h => ⟨by simpa [lexE] using hB, h⟩
 | o :: l, k, listed, a, H, hl, hB, hc, h => by
  have h0 : ops[k]? = some o := by simpa using (hl 0).symm
  simp only [List.length_cons, lexE, Bool.and_eq_true, List.all_eq_true, List.mem_range, decide_eq_true_eq] at hB;obtain ⟨⟨⟨h256, hr⟩, hf⟩, hB'⟩ := hB;have hr' : k ∈ Region.ready md ops.toArray listed := by simpa using hr
  obtain ⟨r, H', hs, hK⟩ := h;refine wbD9 hT h256 h0 l.length listed a H H' hc (fun j oj hj hji hun => ?_) hr' hs ?_
  ·have hlt : j < ops.toArray.size := by simpa using (List.getElem?_eq_some_iff.1 hj).1
   have := hf j hlt;simp only [Bool.or_eq_true, beq_iff_eq, hji, false_or, hun, Bool.false_eq_true, List.getElem?_toArray, h0, hj, Bool.and_eq_true, Bool.not_eq_true'] at this;rcases this with q|q
   ·exact .inl q
   ·exact .inr q
  ·exact xaD9 hT l (k + 1) _ _ _ (fun j => by have := hl (j + 1); simpa [Nat.add_assoc, Nat.add_comm 1 j] using this) hB' (xD0 hc hr') hK
theorem xbQ9 {n0 : Nat} {S0 : St} {H0 : List Blk} {K : List AV → List Blk → Prop} {ds : List Deferred} {Q : Exit → Act → World → Prop} {ro : Option Nat} (hQ : ∀ act w, Ends G n0 S0 H0 ds K act w → Q .normal act w) :
  ∀ (fuel : Nat) (listed : Array Bool) (a : List AV) (H : List Blk) (S : St) (act : Act), AAny P G q ops md K fuel listed a H → S.Ok H → Globs G S.M → n0 ≤ H.length → Ext n0 S0 H0 S H → RelL (S.env H) a act.tmps.toList → Marks S0 ds S H act.defers →
   wpAnyIn (fen ro) 0 P md ops.toArray Q fuel listed act S.w
 | 0, listed, a, H, S, act, hA, hok, hG, hn, hext, ha, hd => ⟨hA.1, hQ _ _ ⟨a, H, S, rfl, hA.2, hok, hext, ha, hd⟩⟩
 | fuel + 1, listed, a, H, S, act, hA, hok, hG, hn, hext, ha, hd => by
  refine ⟨fun h0 => hQ _ _ ⟨a, H, S, rfl, hA.1 h0, hok, hext, ha, hd⟩, fun i hi => ?_⟩;obtain ⟨o, ho, r, H', hs, hA'⟩ := hA.2 i hi;have ho' : ops.toArray[i]? = some o := by simpa using ho
  unfold wpOpIn;simp only [ho'];exact xaJ9 hs.1 hok hG ha fun v S' h1 h2 h3 =>
   xbQ9 hQ fuel _ _ H' S' _ hA' h1 (hG.mono h2.M) (Nat.le_trans hn (h2.len (Nat.le_refl _))) (hext.trans (h2.less hn (Nat.le_refl _))) (kam9 (RelL.mono (h2.le (Nat.le_refl _)) _ _ ha) _ h3) (by
    have e : (act.put o.dst v).defers = act.defers := by cases o.dst <;> rfl
    rw [e]; exact hd.mono h2)
end
end Go.V
