/- The library V, part 17: code. -/
import Derived.Test.YtlpjemobbjijdaaGreatDoorVP
import Derived.RangeFuncRecord
import Derived.OrdersIn
set_option linter.unusedVariables false
set_option linter.unusedSimpArgs false
namespace Go.V
open Go Go.RowKit
abbrev Glob := Nat → Option (List AV)
def Env0 (M : Mem) : Env := ⟨M, fun _ => none, fun _ => none, fun _ => none⟩
def Globs (G : Glob) (M : Mem) : Prop := ∀ g cs, G g = some cs → ∃ (vs : List Value) (t : TypeId) (fr : Nat × Nat), M g = some (.cells vs.toArray t fr) ∧ RelL (Env0 M) cs vs ∧ ∀ u ∈ vs, u.oneCell' = true
theorem Globs.relC {G : Glob} {M : Mem} (h : Globs G M) {g : Nat} {cs : List AV} (hg : G g = some cs) : RelC (Env0 M) cs g 0 := by
 obtain ⟨vs, t, fr, h1, h2, h3⟩ := h g cs hg;refine RelC.mk fun j a hj => ?_;obtain ⟨v, hv, hr⟩ := h2.get hj;exact ⟨v, by simp [qv0, Env0, h1, hv], h3 v (l'l hv), hr⟩
theorem vbY9 (M M' : Mem) (h : ∀ k o, M k = some o → M' k = some o) (E : Env) (hE : E.M = M') : (Env0 M).le E :=
 ⟨(by rw [hE]; exact h), fun b s cur q => (by cases q), fun b g q => (by cases q)⟩
theorem Globs.mono {G : Glob} {M M' : Mem} (hg : Globs G M) (h : ∀ k o, M k = some o → M' k = some o) : Globs G M' :=
 fun g cs hc => let ⟨vs, t, fr, h1, h2, h3⟩ := hg g cs hc; ⟨vs, t, fr, h _ _ h1, RelL.mono (vbY9 M M' h _ rfl) _ _ h2, h3⟩
def getA (a : List AV) (t : Nat) : AV := a.getD t (.tup [])
def putA (a : List AV) (d : Option Tmp) (v : AV) : List AV :=
 match d with
 | some d => a.set d v
 | none => a
def ev (G : Glob) (a : List AV) : Operand → AV
 | .tmp t => getA a t
 | .const v => qaf9 v
 | .global g => match G g with|some cs => .iptr cs 0|none => .top
 | .func f => .fn f []
theorem wam9 {a : List AV} {t d : Nat} (v : AV) (h : d ≠ t) : getA (putA a (some d) v) t = getA a t := by
 simp [getA, putA, l'b, l'r h]
theorem zav9 (a : List AV) {x y : Option Tmp} (v u : AV) (h : ∀ d, x = some d → y ≠ some d) : putA (putA a x v) y u = putA (putA a y u) x v := by
 cases x with
 | none => rfl
 | some d =>
  cases y with
  | none => rfl
  | some e =>
   have hne : d ≠ e := fun q => h d rfl (by rw [q]);simp only [putA];exact List.set_comm _ _ hne
theorem vap9 {E : Env} {a : List AV} {ts : Array Value} (h : RelL E a ts.toList) (t : Nat) : Rel E (getA a t) (ts.getD t undef) := by
 unfold getA;rw [l'b];cases ha : a[t]? with
 | none =>
  have : ts.size ≤ t := by
   have h1 := n'L.1 ha;have := h.length;simp at this;omega
  rw [Array.getD_eq_getD_getElem?, Array.getElem?_eq_none this];simp [Rel, RelL, undef]
 | some v =>
  obtain ⟨u, hu, hr⟩ := h.get ha;have : ts[t]? = some u := by simpa using hu
  rw [Array.getD_eq_getD_getElem?, this];exact hr
theorem xR0 {G : Glob} {S : St} {H : List Blk} {a : List AV} {act : Act} (hG : Globs G S.M) (h : RelL (S.env H) a act.tmps.toList) (x : Operand) : Rel (S.env H) (ev G a x) (act.eval x) := by
 cases x with
 | tmp t => exact vap9 h t
 | const v => exact xaY9 _ v
 | global g =>
  simp only [ev, Act.eval];split
  ·rename_i cs hg;simp only [Rel];exact ⟨g, 0, rfl, (hG.relC hg).mono (vbY9 S.M S.M (fun _ _ h => h) _ rfl)⟩
  ·simp [Rel]
 | func f => simp [ev, Act.eval, Rel, RelL]
theorem vt0 {E : Env} {a : List AV} {act : Act} (h : RelL E a act.tmps.toList) (d : Option Tmp) {r : AV} {v : Value} (hr : Rel E r v) : RelL E (putA a d r) (act.put d v).tmps.toList := by
 cases d with
 | none => exact h
 | some d => simpa [putA, Act.put] using h.set d hr
section
variable {P : Program} {S : St} {H : List Blk}
theorem vbB9 (hok : S.Ok H) {ρ : Operand → AV} {ρv : Operand → Value} (hρ : ∀ x, Rel (S.env H) (ρ x) (ρv x)) (o : Oper) (h : (zd0 P o.op ρ H).1 = true) :
  wJ0 P S H (execOp ρv o) (zd0 P o.op ρ H).2.1 (zd0 P o.op ρ H).2.2 := by
 obtain ⟨dst, op, type, pos, after, guard⟩ := o;simp only at h ⊢;have st : ∀ x, (ρ x).ok = true → Rel (S.env H) (ρ x).strip (ρv x) := fun x hx => (hρ x).strip hx;cases op with
 | alloc t => exact qbY9 hok h
 | box t x =>
  simp only [zd0, l'a] at h ⊢;exact vdg9 hok (st x h.1) h.2
 | store t p x =>
  simp only [zd0, l'a] at h ⊢;exact zbY9 hok (st p h.1) (st x h.2.1) h.2.2
 | makeSlice t l c =>
  simp only [zd0, l'a] at h ⊢;exact wcC9 hok (st l h.1) (st c h.2.1) h.2.2
 | makeMap t r =>
  simp only [zd0, l'a] at h ⊢;exact vbn9 hok (xap9 hρ r h.1) h.2
 | mapUpdate t m k x =>
  simp only [zd0, l'a] at h ⊢;exact xaI9 hok (st m h.1) (st k h.2.1) (st x h.2.2.1) h.2.2.2
 | insert t m k x =>
  simp only [zd0, l'a] at h ⊢;exact xaI9 hok (st m h.1) (st k h.2.1) (st x h.2.2.1) h.2.2.2
 | call c =>
  obtain ⟨callee, args, argTypes⟩ := c;cases callee with
  | builtin b =>
   cases b with
   | append =>
    simp only [zd0] at h ⊢;split at h
    ·rename_i d x t t1 ha ht;simp only [l'a] at h;have := vbL9 (P := P) (ty := type) hok (st d h.1) (st x h.2.1) h.2.2;have hA : args.map ρv = #[ρv d, ρv x] := by apply n'f; simp [ha]
     have hT : argTypes = #[t, t1] := by apply n'f; simp [ht]
     obtain ⟨nx, v, S', h1, h2⟩ := this;refine ⟨nx, v, S', ?_, h2⟩;simpa [execOp, resolve, invoke, builtin, hA, hT] using h1
    ·cases h
   | copy =>
    simp only [zd0] at h ⊢;split at h
    ·rename_i d x t t1 ha ht;simp only [l'a] at h;have := vcC9 (P := P) (t1 := t1) (ty := type) hok (st d h.1) (st x h.2.1) h.2.2;have hA : args.map ρv = #[ρv d, ρv x] := by apply n'f; simp [ha]
     have hT : argTypes = #[t, t1] := by apply n'f; simp [ht]
     obtain ⟨nx, v, S', h1, h2⟩ := this;refine ⟨nx, v, S', ?_, h2⟩;simpa [execOp, resolve, invoke, builtin, hA, hT] using h1
    ·cases h
   | _ => cases h
  | _ => cases h
 | _ => cases h
end
def qb0 (P : Program) (G : Glob) (f : FuncId) (args : List AV) (H : List Blk) (r : AV) (H' : List Blk) : Prop :=
 ∀ (S : St) (vals : List Value), S.Ok H → Globs G S.M → RelL (S.env H) args vals →
  Calls P f vals.toArray S.w fun e w' => ∃ v S', e = .returned v ∧ S'.w = w' ∧ S'.Ok H' ∧ Ext H.length S H S' H' ∧ Rel (S'.env H') r v
def fen (ro : Option Nat) : Fence := { Fence.wide with round := ro }
theorem xz0 {ro : Option Nat} {n : Nat} {P : Program} {f : FuncId} {args : Array Value} {w : World} {R : Ending → World → Prop} (h : Calls P f args w R) : CallsIn (fen ro) n P f args w R := (callsIn_wide (n := n)).2 h
def kJ0 (P : Program) (G : Glob) (b : Nat) (args : List AV) (H : List Blk) (r : AV) (H' : List Blk) : Prop :=
 ∀ (S : St) (vals : List Value) (l : Nat), S.Ok H → Globs G S.M → RelL (S.env H) args vals → mpOf S.ν H b = some l →
  ∃ fn tmps assign body, (Instr.yield l vals.toArray).run P S.w = .ok (.round l fn tmps assign body) S.w ∧
   RoundIn Fence.wide 0 P l fn tmps assign body S.w fun e w' => ∃ v S', e = .returned v ∧ S'.w = w' ∧ S'.Ok H' ∧ Ext H.length S H S' H' ∧ Rel (S'.env H') r v
def qa0 (P : Program) (f : FuncId) : Bool :=
 match P.funcs[f]? with
 | some fn => fn.name != "runtime.NumGoroutine" && fn.body.isSome
 | none => false
def isMk : Op → Bool
 | .makeSlice _ _ _ => true
 | _ => false
def Made (P : Program) (o : Op) (ρ : Operand → AV) (H : List Blk) (r : AV) : Prop :=
 ∀ (oo : Oper), oo.op = o → ∀ (S : St) (ρv : Operand → Value), S.Ok H → (∀ x ∈ o.operands, Rel (S.env H) (ρ x) (ρv x)) → wJ0 P S H (execOp ρv oo) r H
inductive OpSem (P : Program) (G : Glob) (o : Op) (ρ : Operand → AV) (H : List Blk) : AV → List Blk → Prop where
 | pure (h : (xc0 P o ρ H).1 = true) : OpSem P G o ρ H (xc0 P o ρ H).2 H
 | eff (he : zx0 o = true) (h : (zd0 P o ρ H).1 = true) : OpSem P G o ρ H (zd0 P o ρ H).2.1 (zd0 P o ρ H).2.2
 | call (c : Call) (f : Operand) (g : FuncId) (cap : List AV) (ho : o = .call c) (hc : c.callee = .value f) (hf : (ρ f).strip = .fn g cap) (hk : (ρ f).ok = true) (hent : qa0 P g = true)
   (hargs : (c.args.toList.all fun x => (ρ x).ok) = true) (r : AV) (H' : List Blk) (h : qb0 P G g ((c.args.toList.map fun x => (ρ x).strip) ++ cap) H r H') : OpSem P G o ρ H r H'
 | yield (c : Call) (f : Operand) (b : Nat) (ho : o = .call c) (hc : c.callee = .value f) (hf : (ρ f).strip = .yld b) (hk : (ρ f).ok = true)
   (hargs : (c.args.toList.all fun x => (ρ x).ok) = true) (r : AV) (H' : List Blk) (h : kJ0 P G b (c.args.toList.map fun x => (ρ x).strip) H r H') : OpSem P G o ρ H r H'
 | made (he : isMk o = true) (r : AV) (h : Made P o ρ H r) : OpSem P G o ρ H r H
 | mkat (he : isMk o = true) (b : Nat) (r : AV) (H' : List Blk) (h : MkAt P o ρ H b r H') : OpSem P G o ρ H r H'
theorem wdh9 {P : Program} {S : St} {H H' : List Blk} (hok : S.Ok H) {ρ : Operand → AV} {ρv : Operand → Value} (hρ : ∀ x, Rel (S.env H) (ρ x) (ρv x)) (o : Oper) {b : Nat} {r : AV} (h : MkAt P o.op ρ H b r H') : wJ0 P S H (execOp ρv o) r H' := by
 obtain ⟨dst, op, type, pos, after, guard⟩ := o;obtain ⟨h1, rfl, rfl⟩ := h;simp only at h1 ⊢;have st : ∀ x, (ρ x).ok = true → Rel (S.env H) (ρ x).strip (ρv x) := fun x hx => (hρ x).strip hx;cases op with
 | makeSlice t l c =>
  simp only [vJ0, l'a] at h1 ⊢;exact qbM9 hok (st l h1.1.1) (st c h1.1.2) h1.2
 | _ => cases h1
theorem qaQ9 {P : Program} {G : Glob} {S : St} {H H' : List Blk} {r : AV} {a : List AV} {act : Act} {o : Oper} (h : OpSem P G o.op (ev G a) H r H') (hok : S.Ok H) (hG : Globs G S.M) (ha : RelL (S.env H) a act.tmps.toList)
  {K : Act → World → Prop} {Q : Exit → Act → World → Prop} (hK : ∀ v S', S'.Ok H' → Ext H.length S H S' H' → Rel (S'.env H') r v → K (act.put o.dst v) S'.w) {ro : Option Nat} : o.wpIn (fen ro) 0 P act S.w K Q := by
 have hρ := fun x => xR0 (act := act) hG ha x;refine ⟨fun _ _ => trivial, ?_⟩;cases h with
 | pure h =>
  obtain ⟨v, S', h1, h2, h3, h4⟩ := zbB9 hok hρ (fun v => rfl) o h;rw [Oper.semAt_eq _ _ _ (fun c hc => by rw [hc] at h; cases h), h1];exact hK v S' h2 h3 h4
 | eff he h =>
  obtain ⟨nx, v, S', h1, hnx, h2, h3, h4⟩ := vbB9 hok hρ o h;rw [Oper.semAt_eq _ _ _ (fun c hc => by rw [hc] at he; cases he), h1];rcases hnx with rfl|⟨rfl, rfl⟩
  ·exact hK v S' h2 h3 h4
  ·exact hK undef S' h2 h3 h4
 | mkat he b r H' h =>
  obtain ⟨nx, v, S', h1, hnx, h2, h3, h4⟩ := wdh9 hok hρ o h;rw [Oper.semAt_eq _ _ _ (fun c hc => (by rw [hc] at he; cases he)), h1];rcases hnx with rfl|⟨rfl, rfl⟩
  ·exact hK v S' h2 h3 h4
  ·exact hK undef S' h2 h3 h4
 | made he r h =>
  obtain ⟨nx, v, S', h1, hnx, h2, h3, h4⟩ := h o rfl S act.eval hok fun x _ => hρ x;rw [Oper.semAt_eq _ _ _ (fun c hc => (by rw [hc] at he; cases he)), h1];rcases hnx with rfl|⟨rfl, rfl⟩
  ·exact hK v S' h2 h3 h4
  ·exact hK undef S' h2 h3 h4
 | call c f g cap ho hc hf hk hent hargs r H' h =>
  have hfv := (hρ f).strip hk;rw [hf] at hfv;simp only [Rel] at hfv;obtain ⟨caps, hfe, hcap⟩ := hfv;have hrel : RelL (S.env H) ((c.args.toList.map fun x => (ev G a x).strip) ++ cap) (c.args.toList.map act.eval ++ caps) := by
   refine RelL.append (RelL.mk (by simp) fun i x v hx hv => ?_) hcap;rw [l'k] at hx hv;cases hz : c.args.toList[i]? with
   | none => rw [hz] at hx; cases hx
   | some z =>
    rw [hz] at hx hv;injection hx with hx; injection hv with hv; subst hx; subst hv
    exact (hρ z).strip (l'j.1 hargs z (l'l hz))
  have hcall := h S _ hok hG hrel;unfold qa0 at hent;split at hent
  ·rename_i fn hfn;simp only [l'a, bne_iff_ne, ne_eq, l'G] at hent;obtain ⟨hname, body, hbody⟩ := hent;have hn : (fn.name == "runtime.NumGoroutine") = false := by simpa using hname
   have hrun : (execOp act.eval o).run P S.w = .ok (.enter g (c.args.toList.map act.eval ++ caps).toArray) S.w := by
    have harr : c.args.map act.eval ++ caps.toArray = (c.args.toList.map act.eval ++ caps).toArray := by apply n'f; simp
    simp only [execOp, ho, resolve, hc, hfe, Deferred.ofValue];simp [invoke, callFunc, hfn, hn, hbody];rw [← harr];simp;exact hname
   rw [Oper.semAt_eq _ _ _ (fun c' hc' => by rw [ho] at hc'; cases hc'), hrun];refine ⟨fun q => (by cases q), xz0 (hcall.mono fun e w' hh => ?_)⟩;obtain ⟨v, S', rfl, rfl, h2, h3, h4⟩ := hh;exact hK v S' h2 h3 h4
  ·cases hent
 | yield c f b ho hc hf hk hargs r H' h =>
  have hfv := (hρ f).strip hk;rw [hf] at hfv;simp only [Rel] at hfv;obtain ⟨l, hl, hfe⟩ := hfv;have hrel : RelL (S.env H) (c.args.toList.map fun x => (ev G a x).strip) (c.args.toList.map act.eval) := by
   refine RelL.mk (by simp) fun i x v hx hv => ?_;rw [l'k] at hx hv;cases hz : c.args.toList[i]? with
   | none => rw [hz] at hx; cases hx
   | some z =>
    rw [hz] at hx hv;injection hx with hx; injection hv with hv; subst hx; subst hv
    exact (hρ z).strip (l'j.1 hargs z (l'l hz))
  obtain ⟨fn, tmps, assign, body, hy, hround⟩ := h S _ l hok hG hrel hl;have hrun : (execOp act.eval o).run P S.w = .ok (.round l fn tmps assign body) S.w := by
   have harr : c.args.map act.eval = (c.args.toList.map act.eval).toArray := by apply n'f; simp
   simp only [execOp, ho, resolve, hc, hfe, Deferred.ofValue];simp only [invoke, Sem.run_bind, Sem.run_pure, Result.andThen_ok];rw [← hy, ← harr];simp
  rw [Oper.semAt_eq _ _ _ (fun c' hc' => by rw [ho] at hc'; cases hc'), hrun];refine ⟨fun q => (by cases q), RoundIn.mono (F := fen ro) hround fun e w' hh => ?_⟩;obtain ⟨v, S', rfl, rfl, h2, h3, h4⟩ := hh;exact hK v S' h2 h3 h4
end Go.V
set_option maxHeartbeats 0
namespace Go.V
open Go
section
variable {P : Program} {S : St} {H : List Blk}
def bOwn (P : Program) (H : List Blk) (t : TypeId) (len : Nat) (parts : List (Nat × AV)) : Bool × AV × List Blk :=
 match shp P t with
 | .slice e =>
  match xb0 P e with
  | some E =>
   match vS0 H (fun i => some (i * E.sz, E.sz)) ((List.replicate len E.zero).flatten) parts with
   | some cs => (decide (len ≤ 16777216) && decide (len * E.sz ≤ 16777216) && E.zero.length == E.sz, .own H.length len len none, H ++ [.row E.sz e (ww0 E.sz len cs)])
   | none => bad3
  | none => bad3
 | _ => bad3
theorem vdh9 (hok : S.Ok H) {t : TypeId} {len : Nat} {parts : List (Nat × AV)} {pv : Array (Nat × Value)} (hl : parts.length = pv.size)
  (hp : ∀ (i : Nat) (p : Nat × AV) (q : Nat × Value), parts[i]? = some p → pv.toList[i]? = some q → p.1 = q.1 ∧ Rel (S.env H) p.2 q.2) (h : (bOwn P H t len parts).1 = true) :
  wJ0 P S H (do pure (.value (← Instr.buildSlice t len pv))) (bOwn P H t len parts).2.1 (bOwn P H t len parts).2.2 := by
 unfold bOwn at *;cases hs : shp P t with
 | slice e =>
  obtain ⟨TT, hTT, hsh⟩ := zb0 hs (by simp);have hu := qg0 hTT hsh;simp only [hs] at h ⊢;cases hE : xb0 P e with
  | none => rw [hE] at h; cases h
  | some E =>
   obtain ⟨i, d, z, hi, hd, hz, h1, hEE⟩ := qc0 hE;have hzr : RelL (S.env H) E.zero z.cells.toList := by rw [hEE]; exact xj0 _ _
   simp only [hE] at h ⊢;cases hf : vS0 H (fun i => some (i * E.sz, E.sz)) (List.replicate len E.zero).flatten parts with
   | none => rw [hf] at h; cases h
   | some cs =>
    simp only [hf, l'a, decide_eq_true_eq, beq_iff_eq] at h ⊢;obtain ⟨⟨hb0, hb⟩, hzl⟩ := h;have hzs : z.cells.size = E.sz := by rw [← hzl, hzr.length]; simp
    have hrel := zi0 hzr E.sz hzs len;have hone : ∀ u ∈ (madeCells z.cells (len * E.sz)).toList, u.oneCell' = true := by
     intro u hu;simp only [madeCells, n'O, Array.toList_range, l'Z, l'U] at hu;obtain ⟨q, hq, rfl⟩ := hu;have hpos : 0 < z.cells.size := by
      rcases n'g z.cells.size with h0|h0
      ·rw [← hzs, h0] at hq; simp at hq
      ·exact h0
     have hlt : q % z.cells.size < z.cells.size := n'u _ hpos;rw [getElem!_pos z.cells _ hlt];exact h1 _ (by simp)
    obtain ⟨C', hC', g1, g2, g3⟩ := xX0 parts pv.toList _ (madeCells z.cells (len * E.sz)) cs (by simpa using hl) hp hrel hone hf;have hcl : cs.length = len * E.sz := by rw [g1.length, Array.length_toList, g3, size_madeCells]
    have hEsz : E.sz = i.size := by rw [hEE]
    have hr : (Instr.buildSlice t len pv).run P S.w = .ok (.slice (some ⟨S.w.heap.size, 0, none⟩) len len) (S.fresh H.length len e C' 0).w := by
     have c1 : ¬ (len * E.sz > 2 ^ 24) := by omega
     by_cases h0 : len * E.sz = 0
     ·have hC0 : madeCells z.cells (len * E.sz) = (Array.range 0).map (fun x => (#[] : Array Value)[x % (#[] : Array Value).size]!) := by
       rw [h0]; simp [madeCells]
      rw [hC0] at hC';simp only [Instr.buildSlice, Sem.run_bind, run_underlying hu, kc0 hE, Result.andThen_ok, c1, if_false, h0, if_true, Sem.run_pure, newRow, run_newObj, Sem.run_ite];simp at hC';simp [hC', St.fresh, World.drewN]
     ·simp only [Instr.buildSlice, Sem.run_bind, run_underlying hu, kc0 hE, Result.andThen_ok, c1, if_false, h0, Sem.run_ite, Sem.run_pure];simp only [madeCells] at hC';simp [hC', St.fresh, World.drewN, zeroValue, typeInfo, hi, hz, newRow]
    refine ⟨_, .slice (some ⟨S.w.heap.size, 0, none⟩) len len, S.fresh H.length len e C' 0, ?_, .inl rfl, xau9 hok 0 (by rw [wl0]; exact l'd _) (by simp only [maxLen]; omega) (by rw [← Array.length_toList, ← g1.length, hcl]) ?_, xJ0 hok _ _ _, ?_⟩
    ·simp only [Sem.run_bind, hr, Result.andThen_ok, Sem.run_pure]
    ·intro j el hj;have hjl : j < len := by
      have := (l'c.1 hj).1
      rwa [wl0] at this
     rw [kaf9 _ _ _ _ hjl] at hj;injection hj with hj
     subst hj;have hb2 : j * E.sz + E.sz ≤ len * E.sz := by
      rw [← Nat.succ_mul]; exact l'A _ hjl
     refine ⟨by simp; omega, fun q a hq => ?_⟩;rw [l'u] at hq;split at hq
     ·rw [l'Q] at hq;obtain ⟨v, hv, hr⟩ := g1.get hq;exact ⟨v, by simpa using hv, g2 v (l'l hv), hr⟩
     ·cases hq
    ·have hsh' : shOf (H ++ [.row E.sz e (ww0 E.sz len cs)]) H.length = some (E.sz, len) := by rw [qj0]; simp [wl0]
     exact xg0 hsh' (l'd _) (.inr ⟨S.w.heap.size, len, len, vq0 _ _ _ _ _, rfl, l'd _, l'd _, fun _ => rfl, fun j hj => by cases hj⟩)
 | _ => simp only [hs] at h; cases h
end
def isBs : Op → Bool
 | .buildSlice _ _ _ => true
 | _ => false
def qK0 (P : Program) (o : Op) (ρ : Operand → AV) (H : List Blk) : Bool × AV × List Blk :=
 match o with
 | .buildSlice t len parts => ((parts.toList.all fun p => (ρ p.2).ok) && (bOwn P H t len (parts.toList.map fun p => (p.1, (ρ p.2).strip))).1, (bOwn P H t len (parts.toList.map fun p => (p.1, (ρ p.2).strip))).2)
 | _ => bad3
def OwnS (P : Program) (G : Glob) (o : Oper) (a : List AV) (H : List Blk) (r : AV) (H' : List Blk) : Prop :=
 o.guard = none ∧ isBs o.op = true ∧ (qK0 P o.op (ev G a) H).1 = true ∧ r = (qK0 P o.op (ev G a) H).2.1 ∧ H' = (qK0 P o.op (ev G a) H).2.2
theorem wcD9 {P : Program} {S : St} {H : List Blk} (hok : S.Ok H) {ρ : Operand → AV} {ρv : Operand → Value} (hρ : ∀ x, Rel (S.env H) (ρ x) (ρv x)) (o : Oper) (h : (qK0 P o.op ρ H).1 = true) :
  wJ0 P S H (execOp ρv o) (qK0 P o.op ρ H).2.1 (qK0 P o.op ρ H).2.2 := by
 obtain ⟨dst, op, type, pos, after, guard⟩ := o;simp only at h ⊢;have st : ∀ x, (ρ x).ok = true → Rel (S.env H) (ρ x).strip (ρv x) := fun x hx => (hρ x).strip hx;cases op with
 | buildSlice t len parts =>
  simp only [qK0, execOp, l'a, l'j] at h ⊢;have key := vdh9 (P := P) hok (t := t) (len := len) (parts := parts.toList.map fun p => (p.1, (ρ p.2).strip)) (pv := parts.map fun p => (p.1, ρv p.2)) (by simp) (fun i p q hp hq => by
   simp only [n'O, l'k] at hp hq;cases hx : parts.toList[i]? with
   | none => rw [hx] at hp; cases hp
   | some z =>
    rw [hx] at hp hq;injection hp with hp; injection hq with hq; subst hp; subst hq
    exact ⟨rfl, st z.2 (h.1 z (l'l hx))⟩) h.2
  revert key
  generalize Instr.buildSlice t len _ = X;exact fun key => key
 | _ => cases h
theorem zdB9 {P : Program} {G : Glob} {S : St} {H H' : List Blk} {r : AV} {a : List AV} {act : Act} {o : Oper} (h : OwnS P G o a H r H') (hok : S.Ok H) (hG : Globs G S.M) (ha : RelL (S.env H) a act.tmps.toList)
  {K : Act → World → Prop} {Q : Exit → Act → World → Prop} (hK : ∀ v S', S'.Ok H' → Ext H.length S H S' H' → Rel (S'.env H') r v → K (act.put o.dst v) S'.w) {ro : Option Nat} : o.wpIn (fen ro) 0 P act S.w K Q := by
 have hρ := fun x => xR0 (act := act) hG ha x;refine ⟨fun _ _ => trivial, ?_⟩;obtain ⟨_, hb, h1, rfl, rfl⟩ := h;obtain ⟨nx, v, S', h1, hnx, h2, h3, h4⟩ := wcD9 hok hρ o h1;rw [Oper.semAt_eq _ _ _ (fun c hc => by rw [hc] at hb; cases hb), h1];rcases hnx with rfl|⟨rfl, rfl⟩
 ·exact hK v S' h2 h3 h4
 ·exact hK undef S' h2 h3 h4
end Go.V
namespace Go.V
open Go Go.RowKit
def gOf (v : AV) (want : Bool) : Option Bool :=
 match v with
 | .bool b => some (b == want)
 | .opt g (.bool b) => some (g && (b == want))
 | .tup [] => some false
 | _ => none
def vT0 (ops : List Oper) (a : List AV) (j : Nat) (want : Bool) : Option Bool :=
 match ops[j]? with
 | some o =>
  match o.dst with
  | some d => gOf (getA a d) want
  | none => some false
 | none => some false
def xk0 (P : Program) (G : Glob) (ops : List Oper) (o : Oper) (a : List AV) (H : List Blk) (r : AV) (H' : List Blk) : Prop :=
 match o.guard with
 | none => OpSem P G o.op (ev G a) H r H'
 | some (j, want) => ∃ g, vT0 ops a j want = some g ∧
   ((g = true ∧ OpSem P G o.op (ev G a) H r H') ∨ (g = false ∧ r = .tup [] ∧ H' = H) ∨ (∃ v, r = .opt g v ∧ H' = H ∧ (g = true → OpSem P G o.op (ev G a) H v H)))
theorem wba9 {ops : List Oper} {a : List AV} {E : Env} {act : Act} (ha : RelL E a act.tmps.toList) {o : Oper} {j : Nat} {want g : Bool} (hg : o.guard = some (j, want)) (h : vT0 ops a j want = some g) :
  Region.wanted o (yielded ops.toArray act.tmps) = g := by
 unfold Region.wanted;rw [hg];unfold vT0 at h;simp only [yielded, n'n];cases ho : ops[j]? with
 | none =>
  rw [ho] at h; cases h; rfl
 | some o' =>
  rw [ho] at h;simp only at h;cases hd : o'.dst with
  | none =>
   rw [hd] at h; injection h with h; subst h
   simp [hd]
  | some d =>
   rw [hd] at h;simp only [gOf] at h;simp only [Option.bind_some, hd];have hr := vap9 ha d;have hl := ha.length;simp only [Array.length_toList] at hl;have hget : ∀ v, act.tmps.getD d undef = v → v ≠ undef → act.tmps[d]? = some v := by
    intro v hv hne;rw [Array.getD_eq_getD_getElem?] at hv;cases hq : act.tmps[d]? with
    | none => rw [hq] at hv; exact absurd hv.symm hne
    | some u => rw [hq] at hv; simp at hv; rw [hv]
   have hund : act.tmps.getD d undef = undef → act.tmps[d]? = none ∨ act.tmps[d]? = some undef := by
    intro hv;rw [Array.getD_eq_getD_getElem?] at hv;cases hq : act.tmps[d]? with
    | none => exact .inl rfl
    | some u => rw [hq] at hv; simp at hv; subst hv; exact .inr rfl
   split at h
   ·rename_i b hb;rw [hb] at hr;have hv : act.tmps.getD d undef = .bool b := by simpa [Rel] using hr
    injection h with h; subst h
    rw [hget _ hv (by simp [undef])];cases b <;> cases want <;> rfl
   ·rename_i g' b hb;rw [hb] at hr;simp only [Rel] at hr;injection h with h; subst h
    cases g' with
    | true =>
     have hv : act.tmps.getD d undef = .bool b := hr.1 rfl;rw [hget _ hv (by simp [undef])];cases b <;> cases want <;> rfl
    | false =>
     rcases hund (hr.2 rfl) with q|q <;> rw [q] <;> rfl
   ·rename_i hb;rw [hb] at hr;simp only [Rel] at hr;obtain ⟨vs, hv, hvs⟩ := hr;simp only [RelL] at hvs;subst hvs;injection h with h; subst h
    rcases hund (by rw [hv]; rfl) with q|q <;> rw [q] <;> rfl
   ·cases h
theorem kbY9 {P : Program} {G : Glob} {S : St} {ops : List Oper} {H H' : List Blk} {r : AV} {a : List AV} {act : Act} {o : Oper} (h : OwnS P G o a H r H') (hok : S.Ok H) (hG : Globs G S.M) (ha : RelL (S.env H) a act.tmps.toList)
  {K : Act → World → Prop} {Q : Exit → Act → World → Prop} (hK : ∀ v S', S'.Ok H' → Ext H.length S H S' H' → Rel (S'.env H') r v → K (act.put o.dst v) S'.w) {ro : Option Nat} :
  (if Region.wanted o (yielded ops.toArray act.tmps) = true then o.wpIn (fen ro) 0 P act S.w K Q else (∀ f, o.about P S.w act.eval = some f → (fen ro).fn f) ∧ K (act.put o.dst undef) S.w) := by
 have hw : Region.wanted o (yielded ops.toArray act.tmps) = true := by simp [Region.wanted, h.1]
 rw [if_pos hw];exact zdB9 h hok hG ha hK
theorem kap9 {P : Program} {G : Glob} {S : St} {ops : List Oper} {H H' : List Blk} {r : AV} {a : List AV} {act : Act} {o : Oper} (h : xk0 P G ops o a H r H') (hok : S.Ok H) (hG : Globs G S.M) (ha : RelL (S.env H) a act.tmps.toList)
  {K : Act → World → Prop} {Q : Exit → Act → World → Prop} (hK : ∀ v S', S'.Ok H' → Ext H.length S H S' H' → Rel (S'.env H') r v → K (act.put o.dst v) S'.w) {ro : Option Nat} :
  (if Region.wanted o (yielded ops.toArray act.tmps) = true then o.wpIn (fen ro) 0 P act S.w K Q else (∀ f, o.about P S.w act.eval = some f → (fen ro).fn f) ∧ K (act.put o.dst undef) S.w) := by
 unfold xk0 at h;split at h
 ·rename_i hg;have hw : Region.wanted o (yielded ops.toArray act.tmps) = true := by simp [Region.wanted, hg]
  rw [if_pos hw];exact qaQ9 h hok hG ha hK
 ·rename_i j want hg;obtain ⟨g, hgb, hcase⟩ := h;have hw := wba9 ha hg hgb;rw [hw];rcases hcase with ⟨rfl, h⟩|⟨rfl, rfl, rfl⟩|⟨v, rfl, rfl, h⟩
  ·exact qaQ9 h hok hG ha hK
  ·exact ⟨fun _ _ => trivial, hK undef S hok (Ext.refl _ _ _) (by simp [Rel, RelL, undef])⟩
  ·cases g with
   | true =>
    refine qaQ9 (h rfl) hok hG ha fun u S' h1 h2 h3 => hK u S' h1 h2 ?_;simp only [Rel];exact ⟨fun _ => h3, fun q => by cases q⟩
   | false =>
    refine ⟨fun _ _ => trivial, hK undef S hok (Ext.refl _ _ _) ?_⟩;simp only [Rel];exact ⟨fun q => (by cases q), fun _ => trivial⟩
def wan9 (P : Program) (G : Glob) (ops : List Oper) (K : List AV → List Blk → Prop) : List Oper → List AV → List Blk → Prop
 | [], a, H => K a H
 | o :: rest, a, H => ∃ r H', (xk0 P G ops o a H r H' ∨ OwnS P G o a H r H') ∧ wan9 P G ops K rest (putA a o.dst r) H'
def mark (g : Nat) : Deferred := { target := .collected g, args := #[] }
def St.Free (S : St) (H : List Blk) (g : Nat) : Prop := ¬ S.Owns H g ∧ S.M g = none
theorem St.Free.ext {n0 : Nat} {S S' : St} {H H' : List Blk} {g : Nat} (h : S.Free H g) (hg : g < S.w.heap.size) (he : Ext n0 S H S' H') : S'.Free H' g ∧ S'.w.heap[g]? = S.w.heap[g]? := by
 refine ⟨⟨fun q => ?_, ?_⟩, he.keep g hg h.1⟩
 ·rcases he.own g q with q|q
  ·exact h.1 q
  ·omega
 ·cases hM : S'.M g with
  | none => rfl
  | some o =>
   rcases he.dom g (by rw [hM]; simp) with q|q|q
   ·exact absurd h.2 q
   ·exact absurd q h.1
   ·omega
def Marks (S : St) (ds : List Deferred) (S' : St) (H' : List Blk) (ds' : List Deferred) : Prop :=
 ∃ Ds : List Nat, ds' = Ds.map mark ++ ds ∧ Ds.Pairwise (fun x y => y < x) ∧ ∀ g ∈ Ds, S.w.heap.size ≤ g ∧ S'.Free H' g ∧ S'.w.heap[g]? = some (.deferred (some []))
theorem Marks.refl (S S' : St) (H' : List Blk) (ds : List Deferred) : Marks S ds S' H' ds := ⟨[], rfl, .nil, fun _ h => by cases h⟩
theorem Marks.mono {n0 : Nat} {S S1 S2 : St} {H1 H2 : List Blk} {ds ds' : List Deferred} (h : Marks S ds S1 H1 ds') (he : Ext n0 S1 H1 S2 H2) : Marks S ds S2 H2 ds' := by
 obtain ⟨D, e, p, q⟩ := h;refine ⟨D, e, p, fun g hg => ?_⟩;obtain ⟨q1, q2, q3⟩ := q g hg;obtain ⟨r1, r2⟩ := q2.ext (l'n.1 q3).1 he;exact ⟨q1, r1, r2.trans q3⟩
theorem Marks.trans {n0 : Nat} {S S1 S2 : St} {H1 H2 : List Blk} {ds ds1 ds2 : List Deferred} (h : Marks S ds S1 H1 ds1) (k : Marks S1 ds1 S2 H2 ds2) (hsz : S.w.heap.size ≤ S1.w.heap.size) (he : Ext n0 S1 H1 S2 H2) : Marks S ds S2 H2 ds2 := by
 obtain ⟨D1, e1, p1, q1'⟩ := h.mono he;have h1 : ∀ g ∈ D1, g < S1.w.heap.size := fun g hg => by
  obtain ⟨D1', e1', _, q⟩ := h;have : D1' = D1 := by
   rw [e1] at e1';have := List.append_cancel_right e1';exact (List.map_inj_right (f := mark) fun x y hxy => by simpa [mark] using hxy).1 this.symm
  subst this;exact (l'n.1 (q g hg).2.2).1
 obtain ⟨D2, e2, p2, q2⟩ := k;refine ⟨D2 ++ D1, by rw [e2, e1]; simp, n'T.2 ⟨p2, p1, fun x hx y hy => ?_⟩, fun g hg => ?_⟩
 ·have := (q2 x hx).1;have := h1 y hy;omega
 ·rcases n'w.1 hg with h|h
  ·exact ⟨n'a hsz (q2 g h).1, (q2 g h).2⟩
  ·exact q1' g h
def Ends (G : Glob) (n0 : Nat) (S : St) (H : List Blk) (ds : List Deferred) (Q : List AV → List Blk → Prop) (act : Act) (w : World) : Prop :=
 ∃ a' H' S', S'.w = w ∧ Q a' H' ∧ S'.Ok H' ∧ Ext n0 S H S' H' ∧ RelL (S'.env H') a' act.tmps.toList ∧ Marks S ds S' H' act.defers
theorem xav9 {P : Program} {G : Glob} {n0 : Nat} {S0 : St} {H0 : List Blk} {ops : List Oper} {K : List AV → List Blk → Prop} {ds : List Deferred} {Q : Exit → Act → World → Prop} {ro : Option Nat}
  (hQ : ∀ act w, Ends G n0 S0 H0 ds K act w → Q .normal act w) :
  ∀ (l : List Oper) (k : Nat) (a : List AV) (H : List Blk) (S : St) (act : Act), (∀ j, l[j]? = ops[k + j]?) → wan9 P G ops K l a H → S.Ok H → Globs G S.M → n0 ≤ H.length → Ext n0 S0 H0 S H → RelL (S.env H) a act.tmps.toList → Marks S0 ds S H act.defers →
   wpOpsIn (fen ro) 0 P ops.toArray Q (List.range' k l.length) act S.w
 | [], k, a, H, S, act, hl, hc, hok, hG, hn, hext, ha, hd => hQ _ _ ⟨a, H, S, rfl, hc, hok, hext, ha, hd⟩
 | o :: l, k, a, H, S, act, hl, hc, hok, hG, hn, hext, ha, hd => by
  obtain ⟨r, H', hs, hc'⟩ := hc;have h0 : ops.toArray[k]? = some o := by have := hl 0; simpa using this.symm
  have hgo : ∀ v S', S'.Ok H' → Ext H.length S H S' H' → Rel (S'.env H') r v → wpOpsIn (fen ro) 0 P ops.toArray Q (List.range' (k + 1) l.length) (act.put o.dst v) S'.w := fun v S' h1 h2 h3 => by
   have hlen : H.length ≤ H'.length := h2.len (l'd _);exact xav9 hQ l (k + 1) _ H' S' _ (fun j => by have := hl (j + 1); simpa [l'W, n'C 1 j] using this) hc' h1 (hG.mono h2.M) (by omega) (hext.trans (h2.less hn (l'd _))) (vt0 (RelL.mono (h2.le (l'd _)) _ _ ha) _ h3) (by
    have e : (act.put o.dst v).defers = act.defers := by cases o.dst <;> rfl
    rw [e]; exact hd.mono h2)
  have hs1 := hs.elim (fun hs => kap9 (Q := Q) (ro := ro) (ops := ops) hs hok hG ha hgo) (fun hs => kbY9 (Q := Q) (ro := ro) (ops := ops) hs hok hG ha hgo);simp only [List.length_cons, List.range'_succ, wpOpsIn, h0];exact hs1
section congr
variable {P : Program} {G : Glob} {H : List Blk} {ρ ρ' : Operand → AV}
theorem qN0 {β : Type} (l : List Operand) (f : AV → β) (h : ∀ x ∈ l, ρ x = ρ' x) : (l.map fun x => f (ρ x)) = l.map fun x => f (ρ' x) :=
 n'v fun x hx => by rw [h x hx]
theorem zN0 (l : List Operand) (h : ∀ x ∈ l, ρ x = ρ' x) : (l.all fun x => (ρ x).ok) = l.all fun x => (ρ' x).ok := by
 induction l with
 | nil => rfl
 | cons x l ih => simp [h x (by simp), ih fun y hy => h y (l'v _ hy)]
theorem wav9 (l : List (Nat × Operand)) (h : ∀ x ∈ l.map (·.2), ρ x = ρ' x) : (l.map fun p => (p.1, (ρ p.2).strip)) = l.map fun p => (p.1, (ρ' p.2).strip) :=
 n'v fun p hp => by rw [h p.2 (l'Z.2 ⟨p, hp, rfl⟩)]
theorem vba9 (l : List (Nat × Operand)) (h : ∀ x ∈ l.map (·.2), ρ x = ρ' x) : (l.all fun p => (ρ p.2).ok) = l.all fun p => (ρ' p.2).ok := by
 induction l with
 | nil => rfl
 | cons p l ih => simp [h p.2 (by simp), ih fun y hy => h y (by simp at hy ⊢; exact .inr hy)]
theorem qbo9 (o : Op) (h : ∀ x ∈ o.operands, ρ x = ρ' x) : xc0 P o ρ H = xc0 P o ρ' H := by
 cases o with
 | move x => simp only [xc0, h x (by simp [Op.operands])]
 | assign x => simp only [xc0, h x (by simp [Op.operands])]
 | pick c x y => simp only [xc0, h c (by simp [Op.operands]), h x (by simp [Op.operands]), h y (by simp [Op.operands])]
 | load t p => simp only [xc0, h p (by simp [Op.operands])]
 | nilCheck x => simp only [xc0, h x (by simp [Op.operands])]
 | fieldAddr s x f => simp only [xc0, h x (by simp [Op.operands])]
 | field s x f => simp only [xc0, h x (by simp [Op.operands])]
 | indexAddr t x i => simp only [xc0, h x (by simp [Op.operands]), h i (by simp [Op.operands])]
 | index t x i => simp only [xc0, h x (by simp [Op.operands]), h i (by simp [Op.operands])]
 | lookup t x i ok => simp only [xc0, h x (by simp [Op.operands]), h i (by simp [Op.operands])]
 | binOp op t x y yt =>
  simp only [xc0];split
  ·simp only [h x (by simp [Op.operands])]
  ·simp only [h x (by simp [Op.operands]), h y (by simp [Op.operands])]
 | unOp op t x => simp only [xc0, h x (by simp [Op.operands])]
 | convert s d x => simp only [xc0, h x (by simp [Op.operands])]
 | extract x i => simp only [xc0, h x (by simp [Op.operands])]
 | slice t x lo hi mx =>
  have hx := h x (by simp [Op.operands]);have ho : ∀ (y : Option Operand), (∀ z, y = some z → ρ z = ρ' z) → (y.map fun z => (ρ z).strip) = (y.map fun z => (ρ' z).strip) ∧ (y.all fun z => (ρ z).ok) = (y.all fun z => (ρ' z).ok) := fun y hy => by
   cases y with
   | none => exact ⟨rfl, rfl⟩
   | some z => simp [hy z rfl]
  have h1 := ho lo fun z hz => h z (by simp [Op.operands, hz]);have h2 := ho hi fun z hz => h z (by simp [Op.operands, hz]);have h3 := ho mx fun z hz => h z (by simp [Op.operands, hz]);simp only [xc0, hx, h1.1, h1.2, h2.1, h2.2, h3.1, h3.2]
 | build t ps =>
  have hp : ∀ x ∈ ps.toList.map (·.2), ρ x = ρ' x := fun x hx => h x (by simpa [Op.operands] using hx);simp only [xc0, wav9 _ hp, vba9 _ hp]
 | buildSlice t n ps =>
  have hp : ∀ x ∈ ps.toList.map (·.2), ρ x = ρ' x := fun x hx => h x (by simpa [Op.operands] using hx);simp only [xc0, wav9 _ hp, vba9 _ hp]
 | makeFunc fn first captured =>
  have hc : ∀ x ∈ captured.toList, ρ x = ρ' x := fun x hx => h x (by simp [Op.operands]; exact .inr (by simpa using hx));have hc2 : ∀ x ∈ first.toList, ρ x = ρ' x := fun x hx => h x (by simp [Op.operands]; exact .inl (by simpa using hx))
  cases fn with
  | func f =>
   cases hf : first.toList with
   | nil => simp only [xc0, hf, qN0 _ AV.strip hc, zN0 _ hc]
   | cons x0 xs =>
    rw [hf] at hc2;simp only [xc0, hf, qN0 _ AV.strip hc2, zN0 _ hc2]
  | _ => simp only [xc0]
 | call c =>
  obtain ⟨callee, args, ts⟩ := c;cases callee with
  | builtin b =>
   have ha : ∀ x ∈ args.toList, ρ x = ρ' x := fun x hx => h x (by simp [Op.operands, Call.operands]; simpa using hx);cases b with
   | len => simp only [xc0]; split <;> first|(rename_i e _; rw [e] at ha; simp only [ha _ (l'm)])|rfl
   | cap => simp only [xc0]; split <;> first|(rename_i e _; rw [e] at ha; simp only [ha _ (l'm)])|rfl
   | max => simp only [xc0]; split <;> first|(rename_i x y e; rw [e] at ha; simp only [ha x (by simp), ha y (by simp)])|rfl
   | min => simp only [xc0]; split <;> first|(rename_i x y e; rw [e] at ha; simp only [ha x (by simp), ha y (by simp)])|rfl
   | _ => rfl
  | _ => rfl
 | _ => rfl
theorem zbo9 (o : Op) (h : ∀ x ∈ o.operands, ρ x = ρ' x) : zd0 P o ρ H = zd0 P o ρ' H := by
 cases o with
 | box t x => simp only [zd0, h x (by simp [Op.operands])]
 | store t p x => simp only [zd0, h p (by simp [Op.operands]), h x (by simp [Op.operands])]
 | makeSlice t l c => simp only [zd0, h l (by simp [Op.operands]), h c (by simp [Op.operands])]
 | makeMap t r =>
  cases r with
  | none => rfl
  | some z => simp [zd0, h z (by simp [Op.operands])]
 | mapUpdate t m k x => simp only [zd0, h m (by simp [Op.operands]), h k (by simp [Op.operands]), h x (by simp [Op.operands])]
 | insert t m k x => simp only [zd0, h m (by simp [Op.operands]), h k (by simp [Op.operands]), h x (by simp [Op.operands])]
 | call c =>
  obtain ⟨callee, args, ts⟩ := c;cases callee with
  | builtin b =>
   have ha : ∀ x ∈ args.toList, ρ x = ρ' x := fun x hx => h x (by simp [Op.operands, Call.operands]; simpa using hx);cases b <;> first
    | rfl
    | (simp only [zd0]; split <;> first|(rename_i d x t t1 e _; rw [e] at ha; simp only [ha d (by simp), ha x (by simp)])|rfl)
  | _ => rfl
 | _ => rfl
theorem xs0 {o : Op} {r : AV} {H' : List Blk} (h : ∀ x ∈ o.operands, ρ x = ρ' x) (hs : OpSem P G o ρ H r H') : OpSem P G o ρ' H r H' := by
 cases hs with
 | pure h1 => rw [qbo9 o h] at h1 ⊢; exact .pure h1
 | eff he h1 => rw [zbo9 o h] at h1 ⊢; exact .eff he h1
 | mkat he b r H' h1 => exact .mkat he b r H' (wag9 h h1)
 | made he r h1 => exact .made he r fun oo ho S ρv hok hr => h1 oo ho S ρv hok fun x hx => by rw [h x hx]; exact hr x hx
 | call c f g cap ho hc hf hk hent hargs r H' h1 =>
  have hff : ρ f = ρ' f := h f (by simp [ho, Op.operands, Call.operands, hc]);have ha : ∀ x ∈ c.args.toList, ρ x = ρ' x := fun x hx => h x (by
   rw [ho]; simp only [Op.operands, Call.operands]; exact Array.mem_append.2 (.inr (by simpa using hx)))
  rw [hff] at hf hk;rw [zN0 _ ha] at hargs;rw [qN0 _ AV.strip ha] at h1;exact .call c f g cap ho hc hf hk hent hargs r H' h1
 | yield c f b ho hc hf hk hargs r H' h1 =>
  have hff : ρ f = ρ' f := h f (by simp [ho, Op.operands, Call.operands, hc]);have ha : ∀ x ∈ c.args.toList, ρ x = ρ' x := fun x hx => h x (by
   rw [ho]; simp only [Op.operands, Call.operands]; exact Array.mem_append.2 (.inr (by simpa using hx)))
  rw [hff] at hf hk;rw [zN0 _ ha] at hargs;rw [qN0 _ AV.strip ha] at h1;exact .yield c f b ho hc hf hk hargs r H' h1
end congr
section
variable {P : Program} {G : Glob} {ops : List Oper} {md : Region.Mode} {q : Operand → Bool}
theorem qbZ9 {a : List AV} {d : Option Tmp} {v : AV} {x : Operand} (h : ∀ t, d = some t → x ≠ .tmp t) : ev G (putA a d v) x = ev G a x := by
 cases x with
 | tmp t =>
  cases d with
  | none => rfl
  | some e => exact wam9 v fun q => h e rfl (by rw [q])
 | _ => rfl
theorem ka0 {o : Oper} {a : List AV} {H H' : List Blk} {r v : AV} {d : Option Tmp} (h : ∀ t, d = some t → t ∉ o.looksAt ops.toArray) :
  (xk0 P G ops o (putA a d v) H r H' → xk0 P G ops o a H r H') ∧ (xk0 P G ops o a H r H' → xk0 P G ops o (putA a d v) H r H') := by
 have hop : ∀ x ∈ o.op.operands, ev G (putA a d v) x = ev G a x := fun x hx => qbZ9 fun t ht hxt => h t ht (by
  subst hxt;exact n's _ (List.mem_filterMap.2 ⟨.tmp t, by simpa using hx, rfl⟩))
 have hg : ∀ j want, o.guard = some (j, want) → vT0 ops (putA a d v) j want = vT0 ops a j want := fun j want hj => by
  unfold vT0;cases ho : ops[j]? with
  | none => rfl
  | some o' =>
   cases hd : o'.dst with
   | none => simp [hd]
   | some e =>
    simp only [hd];cases d with
    | none => rfl
    | some t =>
     rw [wam9 v fun q => h t rfl (by
      subst q;refine n'J _ ?_;rw [hj];simp [ho, hd])]
 constructor
 ·intro hs;unfold xk0 at *;split at hs
  ·exact xs0 hop hs
  ·rename_i j want hgd;rw [hg j want hgd] at hs;obtain ⟨g, h1, h2⟩ := hs;refine ⟨g, h1, ?_⟩;rcases h2 with ⟨e, h2⟩|h2|⟨v', e1, e2, h2⟩
   ·exact .inl ⟨e, xs0 hop h2⟩
   ·exact .inr (.inl h2)
   ·exact .inr (.inr ⟨v', e1, e2, fun q => xs0 hop (h2 q)⟩)
 ·intro hs;have hop' : ∀ x ∈ o.op.operands, ev G a x = ev G (putA a d v) x := fun x hx => (hop x hx).symm;unfold xk0 at *;split at hs
  ·exact xs0 hop' hs
  ·rename_i j want hgd;rw [hg j want hgd];obtain ⟨g, h1, h2⟩ := hs;refine ⟨g, h1, ?_⟩;rcases h2 with ⟨e, h2⟩|h2|⟨v', e1, e2, h2⟩
   ·exact .inl ⟨e, xs0 hop' h2⟩
   ·exact .inr (.inl h2)
   ·exact .inr (.inr ⟨v', e1, e2, fun q => xs0 hop' (h2 q)⟩)
def kB0 : Op → Bool
 | .move _|.assign _|.pick ..|.field ..|.index ..|.unOp ..|.convert ..|.extract .. => true
 | .binOp op _ _ y _ => (waf9 op y).isNone
 | _ => false
theorem qaF9 {o : Op} (h : kB0 o = true) (ρ : Operand → AV) (H H' : List Blk) : xc0 P o ρ H = xc0 P o ρ H' := by
 cases o with
 | binOp op t x y yt =>
  simp only [kB0, l'R] at h;simp only [xc0, h]
 | _ => first|rfl|cases h
theorem kC0 {o : Op} (h : kB0 o = true) {ρ : Operand → AV} {H H' : List Blk} {r : AV} (hs : OpSem P G o ρ H r H') : H' = H ∧ ∀ H2, OpSem P G o ρ H2 r H2 := by
 cases hs with
 | pure h1 => exact ⟨rfl, fun H2 => by rw [qaF9 h ρ H H2] at h1 ⊢; exact .pure h1⟩
 | eff he h1 => exfalso; cases o <;> first|exact Bool.noConfusion he|exact Bool.noConfusion h
 | made he r h1 => exfalso; cases o <;> first|exact Bool.noConfusion he|exact Bool.noConfusion h
 | mkat he b r H' h1 => exfalso; cases o <;> first|exact Bool.noConfusion he|exact Bool.noConfusion h
 | call c f g cap ho => subst ho; cases h
 | yield c f b ho => subst ho; cases h
theorem kt0 {o : Oper} (h : kB0 o.op = true) {a : List AV} {H H' : List Blk} {r : AV} (hs : xk0 P G ops o a H r H') : H' = H ∧ ∀ H2, xk0 P G ops o a H2 r H2 := by
 unfold xk0 at *;split at hs
 ·exact kC0 h hs
 ·obtain ⟨g, h1, h2⟩ := hs;rcases h2 with ⟨e, h2⟩|⟨e1, e2, e3⟩|⟨v', e1, e2, h2⟩
  ·obtain ⟨q1, q2⟩ := kC0 h h2;exact ⟨q1, fun H2 => ⟨g, h1, .inl ⟨e, q2 H2⟩⟩⟩
  ·exact ⟨e3, fun H2 => ⟨g, h1, .inr (.inl ⟨e1, e2, rfl⟩)⟩⟩
  ·exact ⟨e2, fun H2 => ⟨g, h1, .inr (.inr ⟨v', e1, rfl, fun q => (kC0 h (h2 q)).2 H2⟩)⟩⟩
def mkF (q : Operand → Bool) : Bool := q (.global 0) && !q (.global 1)
def effD (q : Operand → Bool) (o : Op) : Bool := (zx0 o && !(isMk o && mkF q)) || (match o with|.call { callee := .value f, .. } => !q f|_ => false)
def xbo9 (q : Operand → Bool) (oi oj : Op) : Bool := (!effD q oi && !effD q oj) || kB0 oi || kB0 oj
def kba9 (P : Program) (G : Glob) (q : Operand → Bool) (ops : List Oper) (o : Oper) (a : List AV) (H : List Blk) (r : AV) (H' : List Blk) : Prop := xk0 P G ops o a H r H' ∧ (effD q o.op = false → H' = H)
def AAny (P : Program) (G : Glob) (q : Operand → Bool) (ops : List Oper) (md : Region.Mode) (K : List AV → List Blk → Prop) : Nat → Array Bool → List AV → List Blk → Prop
 | 0, listed, a, H => Region.ready md ops.toArray listed = [] ∧ K a H
 | fuel + 1, listed, a, H => (Region.ready md ops.toArray listed = [] → K a H) ∧
   ∀ i ∈ Region.ready md ops.toArray listed, ∃ o, ops[i]? = some o ∧ ∃ r H', kba9 P G q ops o a H r H' ∧ AAny P G q ops md K fuel (listed.setIfInBounds i true) (putA a o.dst r) H'
def zI0 (md : Region.Mode) (ops : List Oper) (listed : Array Bool) : Prop :=
 ∀ k o, ops[k]? = some o → listed.getD k false = true → ∀ e ∈ o.after, Region.binds md e = true → listed.getD e.on false = true
def maskOf (md : Region.Mode) (T : Nat) : List Edge → Nat → Nat
 | [], m => m
 | e :: es, m => maskOf md T es (if Region.binds md e = true then m ||| (1 <<< e.on) ||| ((T >>> (e.on * 256)) % 2 ^ 256) else m)
def ancT (md : Region.Mode) : List Oper → Nat → Nat → Nat
 | [], _, T => T
 | o :: r, k, T =>
  match T ||| ((maskOf md T o.after.toList 0 % 2 ^ 256) <<< (k * 256)) with
  | 0 => ancT md r (k + 1) 0
  | n + 1 => ancT md r (k + 1) (n + 1)
def zbZ9 (md : Region.Mode) (ops : List Oper) (j i : Nat) : Prop :=
 ∀ listed, zI0 md ops listed → (∀ o, ops[j]? = some o → ∀ e ∈ o.after, Region.binds md e = true → listed.getD e.on false = true) → listed.getD i false = true
def zK0 (md : Region.Mode) (ops : List Oper) (T : Nat) : Prop := ∀ j i, i < 256 → T.testBit (j * 256 + i) = true → zbZ9 md ops j i
theorem xbZ9 {T j : Nat} {o : Oper} (ho : ops[j]? = some o) (hT : zK0 md ops T) : ∀ (es : List Edge) (m : Nat), (∀ e ∈ es, e ∈ o.after) → (∀ i, i < 256 → m.testBit i = true → zbZ9 md ops j i) →
  ∀ i, i < 256 → (maskOf md T es m).testBit i = true → zbZ9 md ops j i
 | [], m, _, hm, i, hi, h => hm i hi h
 | e :: es, m, hes, hm, i, hi, h => by
  refine xbZ9 ho hT es _ (fun e he => hes e (l'v _ he)) (fun i hi h => ?_) i hi h;split at h
  ·rename_i hb;simp only [Nat.testBit_or, l's] at h;have hmem := hes e (l'm);rcases h with (h|h)|h
   ·exact hm i hi h
   ·rw [Nat.one_shiftLeft, Nat.testBit_two_pow] at h;have : e.on = i := by simpa using h
    subst this;exact fun listed hc hp => hp o ho e hmem hb
   ·rw [Nat.testBit_mod_two_pow, Nat.testBit_shiftRight] at h;simp only [l'a] at h;have hr := hT e.on i hi h.2;exact fun listed hc hp => hr listed hc fun o' ho' e' he' hb' => hc e.on o' ho' (hp o ho e hmem hb) e' he' hb'
  ·exact hm i hi h
theorem vav9 : ∀ (l : List Oper) (k T : Nat), (∀ j, l[j]? = ops[k + j]?) → zK0 md ops T → zK0 md ops (ancT md l k T)
 | [], k, T, _, hT => hT
 | o :: l, k, T, hl, hT => by
  have ho : ops[k]? = some o := by have := hl 0; simpa using this.symm
  have hT' : zK0 md ops (T ||| ((maskOf md T o.after.toList 0 % 2 ^ 256) <<< (k * 256))) := fun j i hi h => by
   simp only [Nat.testBit_or, l's, Nat.testBit_shiftLeft, Nat.testBit_mod_two_pow, l'a, decide_eq_true_eq] at h;rcases h with h|⟨h1, h2, h3⟩
   ·exact hT j i hi h
   ·have hjk : j = k := by omega
    subst hjk;have e : j * 256 + i - j * 256 = i := by omega
    rw [e] at h3;exact xbZ9 ho hT o.after.toList 0 (fun e he => by simpa using he) (fun i hi h => by simp at h) i hi h3
  unfold ancT;split
  ·rename_i h0;rw [h0] at hT';exact vav9 l (k + 1) 0 (fun j => by have := hl (j + 1); simpa [l'W, n'C 1 j] using this) hT'
  ·rename_i n hn;rw [hn] at hT';exact vav9 l (k + 1) (n + 1) (fun j => by have := hl (j + 1); simpa [l'W, n'C 1 j] using this) hT'
theorem kT0 {listed : Array Bool} {T : Nat} (hT : zK0 md ops T) (hc : zI0 md ops listed) {j i : Nat} (hi : i < 256) (hj : j ∈ Region.ready md ops.toArray listed) (h : T.testBit (j * 256 + i) = true) : listed.getD i false = true := by
 obtain ⟨_, oj, hoj, hall⟩ := mem_ready.1 hj;exact hT j i hi h listed hc fun o ho e he hb => by
  have : ops[j]? = some oj := by simpa using hoj
  rw [this] at ho; injection ho with ho; subst ho
  exact hall e he hb
theorem ws0 {listed : Array Bool} (hc : zI0 md ops listed) {j : Nat} (hj : j ∈ Region.ready md ops.toArray listed) : zI0 md ops (listed.setIfInBounds j true) := by
 intro k o ho hk e he hb;obtain ⟨_, oj, hoj, hall⟩ := mem_ready.1 hj;by_cases hkj : j = k
 ·subst hkj;have : ops[j]? = some oj := by simpa using hoj
  rw [ho] at this; injection this with this; subst this
  exact getD_set_true (hall e he hb)
 ·rw [getD_set_ne false hkj] at hk;exact getD_set_true (hc k o ho hk e he hb)
theorem vag9 {listed : Array Bool} {i : Nat} (h : listed.getD i true = false) : listed.getD i false ≠ true := by
 rcases l'h i listed.size with h'|h'
 ·simp [h'] at h ⊢; exact h
 ·simp [Array.getElem?_eq_none h'] at h
theorem zbM9 {K : List AV → List Blk → Prop} {i : Nat} {oi : Oper} {r : AV} {N : Nat} (hT : zK0 md ops N) (hi256 : i < 256) (hi : ops[i]? = some oi) :
  ∀ (fuel : Nat) (listed : Array Bool) (a : List AV) (H H' : List Blk), zI0 md ops listed →
   (∀ j oj, ops[j]? = some oj → j ≠ i → listed.getD j true = false → N.testBit (j * 256 + i) = true ∨ (xbo9 q oi.op oj.op = true ∧ oi.apart ops.toArray oj = true)) →
   i ∈ Region.ready md ops.toArray listed → kba9 P G q ops oi a H r H' → AAny P G q ops md K fuel (listed.setIfInBounds i true) (putA a oi.dst r) H' → AAny P G q ops md K (fuel + 1) listed a H := by
 intro fuel;induction fuel with
 | zero =>
  intro listed a H H' hc hfree hr hs hA;refine ⟨fun h => (by rw [h] at hr; cases hr), fun j hj => ?_⟩;by_cases hji : j = i
  ·subst hji; exact ⟨oi, hi, r, H', hs, hA⟩
  ·have := ready_mono hj hji;rw [hA.1] at this;cases this
 | succ fuel ih =>
  intro listed a H H' hc hfree hr hs hA;refine ⟨fun h => (by rw [h] at hr; cases hr), fun j hj => ?_⟩;by_cases hji : j = i
  ·subst hji; exact ⟨oi, hi, r, H', hs, hA⟩
  ·obtain ⟨hjun, oj', hoj', hall⟩ := mem_ready.1 hj;have hoj : ops[j]? = some oj' := by simpa using hoj'
   rcases hfree j oj' hoj hji hjun with hre|⟨hsw, hap⟩
   ·exact absurd (kT0 hT hc hi256 hj hre) (vag9 (mem_ready.1 hr).1)
   ·obtain ⟨oj, hoj2, rj, Hj, hsj, hAj⟩ := hA.2 j (ready_mono hj hji);rw [hoj] at hoj2; injection hoj2 with hoj2; subst hoj2
    obtain ⟨a1, a2, a3⟩ := Oper.apart_spec hap;have key : ∃ Hm, kba9 P G q ops oj' a H rj Hm ∧ kba9 P G q ops oi (putA a oj'.dst rj) Hm r Hj := by
     simp only [xbo9, l's, l'a, l'T] at hsw;rcases hsw with (⟨p1, p2⟩|hp)|hp
     ·have e1 : H' = H := hs.2 p1;subst e1;have e2 : Hj = H' := hsj.2 p2;subst e2;exact ⟨Hj, ⟨(ka0 a1).1 hsj.1, fun _ => rfl⟩, ⟨(ka0 a3).2 hs.1, fun _ => rfl⟩⟩
     ·obtain ⟨e1, q⟩ := kt0 hp hs.1;subst e1;exact ⟨Hj, ⟨(ka0 a1).1 hsj.1, hsj.2⟩, ⟨(ka0 a3).2 (q Hj), fun _ => rfl⟩⟩
     ·obtain ⟨e1, q⟩ := kt0 hp hsj.1;subst e1;exact ⟨H, ⟨(ka0 a1).1 (q H), fun _ => rfl⟩, ⟨(ka0 a3).2 hs.1, hs.2⟩⟩
    obtain ⟨Hm, hsj', hsi'⟩ := key;refine ⟨oj', hoj, rj, Hm, hsj', ?_⟩;refine ih (listed.setIfInBounds j true) _ _ _ (ws0 hc hj) (fun k ok hk hki hun => ?_) (ready_mono hr (n'o hji)) hsi' ?_
    ·refine hfree k ok hk hki ?_;by_cases hjk : j = k
     ·subst hjk; exact hjun
     ·rw [getD_set_ne true hjk] at hun; exact hun
    ·rw [z'd _ _ hji, ← zav9 a r rj a2];exact hAj
def lexE (q : Operand → Bool) (md : Region.Mode) (ops : Array Oper) (T : Nat) : Nat → Nat → Array Bool → Bool
 | 0, _, listed => (Region.ready md ops listed).isEmpty
 | n + 1, k, listed => decide (k < 256) && (Region.ready md ops listed).contains k &&
   ((List.range ops.size).all fun j => j == k || listed.getD j true || T.testBit (j * 256 + k) ||
    (match ops[k]?, ops[j]? with|some ok, some oj => xbo9 q ok.op oj.op && ok.apart ops oj|_, _ => false)) &&
   lexE q md ops T n (k + 1) (listed.setIfInBounds k true)
def kav9 (q : Operand → Bool) (ops : List Oper) : Bool :=
 match ancT .any ops 0 0 with
 | 0 => lexE q .any ops.toArray 0 ops.length 0 (Array.replicate ops.length false)
 | n + 1 => lexE q .any ops.toArray (n + 1) ops.length 0 (Array.replicate ops.length false)
theorem wbo9 {q : Operand → Bool} {ops : List Oper} (h : kav9 q ops = true) : ∃ T, zK0 .any ops T ∧ lexE q .any ops.toArray T ops.length 0 (Array.replicate ops.length false) = true := by
 have hT : zK0 .any ops (ancT .any ops 0 0) := vav9 ops 0 0 (fun j => by simp) fun j i _ h => by simp at h
 unfold kav9 at h;split at h
 ·rename_i h0; rw [h0] at hT; exact ⟨0, hT, h⟩
 ·rename_i n hn; rw [hn] at hT; exact ⟨n + 1, hT, h⟩
def wbZ9 (P : Program) (G : Glob) (q : Operand → Bool) (ops : List Oper) (K : List AV → List Blk → Prop) : List Oper → List AV → List Blk → Prop
 | [], a, H => K a H
 | o :: rest, a, H => ∃ r H', kba9 P G q ops o a H r H' ∧ wbZ9 P G q ops K rest (putA a o.dst r) H'
theorem waI9 {K : List AV → List Blk → Prop} {T : Nat} (hT : zK0 md ops T) : ∀ (l : List Oper) (k : Nat) (listed : Array Bool) (a : List AV) (H : List Blk), (∀ j, l[j]? = ops[k + j]?) → lexE q md ops.toArray T l.length k listed = true → zI0 md ops listed →
  wbZ9 P G q ops K l a H → AAny P G q ops md K l.length listed a H
 | [], k, listed, a, H, _, hB, _, h => ⟨by simpa [lexE] using hB, h⟩
 | o :: l, k, listed, a, H, hl, hB, hc, h => by
  have h0 : ops[k]? = some o := by simpa using (hl 0).symm
  simp only [List.length_cons, lexE, l'a, l'j, l'U, decide_eq_true_eq] at hB;obtain ⟨⟨⟨h256, hr⟩, hf⟩, hB'⟩ := hB;have hr' : k ∈ Region.ready md ops.toArray listed := by simpa using hr
  obtain ⟨r, H', hs, hK⟩ := h;refine zbM9 hT h256 h0 l.length listed a H H' hc (fun j oj hj hji hun => ?_) hr' hs ?_
  ·have hlt : j < ops.toArray.size := by simpa using (l'c.1 hj).1
   have := hf j hlt;simp only [l's, beq_iff_eq, hji, false_or, hun, l'I, n'n, h0, hj, l'a, l'T] at this;rcases this with q|q
   ·exact .inl q
   ·exact .inr q
  ·exact waI9 hT l (k + 1) _ _ _ (fun j => by have := hl (j + 1); simpa [l'W, n'C 1 j] using this) hB' (ws0 hc hr') hK
theorem vbo9 {n0 : Nat} {S0 : St} {H0 : List Blk} {K : List AV → List Blk → Prop} {ds : List Deferred} {Q : Exit → Act → World → Prop} {ro : Option Nat} (hQ : ∀ act w, Ends G n0 S0 H0 ds K act w → Q .normal act w) :
  ∀ (fuel : Nat) (listed : Array Bool) (a : List AV) (H : List Blk) (S : St) (act : Act), AAny P G q ops md K fuel listed a H → S.Ok H → Globs G S.M → n0 ≤ H.length → Ext n0 S0 H0 S H → RelL (S.env H) a act.tmps.toList → Marks S0 ds S H act.defers →
   wpAnyIn (fen ro) 0 P md ops.toArray Q fuel listed act S.w
 | 0, listed, a, H, S, act, hA, hok, hG, hn, hext, ha, hd => ⟨hA.1, hQ _ _ ⟨a, H, S, rfl, hA.2, hok, hext, ha, hd⟩⟩
 | fuel + 1, listed, a, H, S, act, hA, hok, hG, hn, hext, ha, hd => by
  refine ⟨fun h0 => hQ _ _ ⟨a, H, S, rfl, hA.1 h0, hok, hext, ha, hd⟩, fun i hi => ?_⟩;obtain ⟨o, ho, r, H', hs, hA'⟩ := hA.2 i hi;have ho' : ops.toArray[i]? = some o := by simpa using ho
  unfold wpOpIn;simp only [ho'];exact kap9 hs.1 hok hG ha fun v S' h1 h2 h3 =>
   vbo9 hQ fuel _ _ H' S' _ hA' h1 (hG.mono h2.M) (n'a hn (h2.len (l'd _))) (hext.trans (h2.less hn (l'd _))) (vt0 (RelL.mono (h2.le (l'd _)) _ _ ha) _ h3) (by
    have e : (act.put o.dst v).defers = act.defers := by cases o.dst <;> rfl
    rw [e]; exact hd.mono h2)
end
abbrev Post := Exit → List AV → List Blk → Prop
def AWp (ρ : Bool) (P : Program) (G : Glob) (n0 : Nat) (c : Code) (Q : Post) (a : List AV) (H : List Blk) : Prop :=
 ∀ (ro : Option Nat) (S : St) (act : Act), ro.isSome = ρ → S.Ok H → Globs G S.M → n0 ≤ H.length → RelL (S.env H) a act.tmps.toList → c.wpIn (fen ro) 0 P (fun e => Ends G n0 S H act.defers (Q e)) act S.w
def kbo9 (K : List AV → List Blk → Prop) (Q : Post) : Post
 | .normal, a, H => K a H
 | e, a, H => Q e a H
def qaq9 (id : Nat) (Q : Post) : Post
 | .exit id', a, H => if id' = id then Q .normal a H else Q (.exit id') a H
 | e, a, H => Q e a H
def Weak (n0 : Nat) (a : List AV) (H : List Blk) (a1 : List AV) (H1 : List Blk) : Prop :=
 ∀ (S : St) (vs : List Value), S.Ok H → n0 ≤ H.length → RelL (S.env H) a vs → ∃ S1, S1.w = S.w ∧ S1.Ok H1 ∧ Ext n0 S H S1 H1 ∧ RelL (S1.env H1) a1 vs
section
variable {ρ : Bool} {P : Program} {G : Glob} {n0 : Nat} {Q : Post} {a : List AV} {H : List Blk}
theorem Ends.mono {S : St} {K K' : List AV → List Blk → Prop} {ds : List Deferred} {act : Act} {w : World} (h : Ends G n0 S H ds K act w) (hk : ∀ a H, K a H → K' a H) : Ends G n0 S H ds K' act w :=
 let ⟨a', H', S', h1, h2, h3⟩ := h
 ⟨a', H', S', h1, hk _ _ h2, h3⟩
theorem Ends.from {S S1 : St} {H1 : List Blk} {ds ds1 : List Deferred} {K : List AV → List Blk → Prop} {act : Act} {w : World} (he : Ext n0 S H S1 H1) (hm : Marks S ds S1 H1 ds1) (h : Ends G n0 S1 H1 ds1 K act w) : Ends G n0 S H ds K act w :=
 let ⟨a', H', S', h1, h2, h3, h4, h5, h6⟩ := h
 ⟨a', H', S', h1, h2, h3, he.trans h4, h5, hm.trans h6 he.size h4⟩
theorem qu0 {c : Code} {Q' : Post} (h : AWp ρ P G n0 c Q a H) (hq : ∀ e a H, Q e a H → Q' e a H) : AWp ρ P G n0 c Q' a H :=
 fun ro S act hr h1 h2 h3 h4 => wpIn_mono (h ro S act hr h1 h2 h3 h4) fun e _ _ he => he.mono (hq e)
theorem kdh9 {x y : Code} (h : AWp ρ P G n0 x (kbo9 (AWp ρ P G n0 y Q) Q) a H) : AWp ρ P G n0 (.seq x y) Q a H := fun ro S act hr h1 h2 h3 h4 =>
 wpIn_seq (wpIn_mono (h ro S act hr h1 h2 h3 h4) fun e act' w' he => by
  cases e with
  | normal =>
   obtain ⟨a', H', S', rfl, hK, hok, hext, ha, hd⟩ := he;exact wpIn_mono (hK ro S' act' hr hok (h2.mono hext.M) (hext.len h3) ha) fun e _ _ q => q.from hext hd
  | _ => exact he)
theorem vcD9 (h : Q .normal a H) : AWp ρ P G n0 .skip Q a H := fun ro S act hr h1 h2 h3 h4 => wpIn_skip ⟨a, H, S, rfl, h, h1, Ext.refl _ _ _, h4, Marks.refl _ _ _ _⟩
theorem qdi9 (h : Q .ret a H) : AWp ρ P G n0 .ret Q a H := fun ro S act hr h1 h2 h3 h4 => wpIn_ret ⟨a, H, S, rfl, h, h1, Ext.refl _ _ _, h4, Marks.refl _ _ _ _⟩
theorem kcD9 {id : Nat} (h : Q (.exit id) a H) : AWp ρ P G n0 (.exit id) Q a H := fun ro S act hr h1 h2 h3 h4 => wpIn_exit ⟨a, H, S, rfl, h, h1, Ext.refl _ _ _, h4, Marks.refl _ _ _ _⟩
theorem qbb9 {l : Nat} (h : Q .normal a H) : AWp ρ P G n0 (.label l) Q a H := fun ro S act hr h1 h2 h3 h4 => wpIn_label ⟨a, H, S, rfl, h, h1, Ext.refl _ _ _, h4, Marks.refl _ _ _ _⟩
theorem vbZ9 {id : Nat} {c : Code} (h : AWp ρ P G n0 c (qaq9 id Q) a H) : AWp ρ P G n0 (.block id c) Q a H := fun ro S act hr h1 h2 h3 h4 =>
 wpIn_block (wpIn_mono (h ro S act hr h1 h2 h3 h4) fun e act' w' he => by
  cases e with
  | exit id' =>
   grind [id, Ends, qaq9, Exit.inBlock]
  | _ => exact he)
theorem qcE9 {c : Operand} {x y : Code} {b : Bool} (hc : (ev G a c).strip = .bool b) (hk : (ev G a c).ok = true) (ht : b = true → AWp ρ P G n0 x Q a H) (hf : b = false → AWp ρ P G n0 y Q a H) : AWp ρ P G n0 (.cond c x y) Q a H :=
 fun ro S act hr0 h1 h2 h3 h4 => by
  have hr := (xR0 (act := act) h2 h4 c).strip hk;rw [hc] at hr;have hv : act.eval c = .bool b := by simpa [Rel] using hr
  exact wpIn_cond_split hv (fun e => ht e ro S act hr0 h1 h2 h3 h4) fun e => hf e ro S act hr0 h1 h2 h3 h4
theorem zdi9 {c : Operand} {x y : Code} (hc : (ev G a c).strip = .anyb) (hk : (ev G a c).ok = true) (ht : AWp ρ P G n0 x Q a H) (hf : AWp ρ P G n0 y Q a H) : AWp ρ P G n0 (.cond c x y) Q a H :=
 fun ro S act hr0 h1 h2 h3 h4 => by
  have hr := (xR0 (act := act) h2 h4 c).strip hk;rw [hc] at hr;simp only [Rel] at hr;obtain ⟨b, hv⟩ := hr;exact wpIn_cond_split hv (fun e => ht ro S act hr0 h1 h2 h3 h4) fun e => hf ro S act hr0 h1 h2 h3 h4
theorem zcE9 {c : Code} {a1 : List AV} {H1 : List Blk} (hw : Weak n0 a H a1 H1) (h : AWp ρ P G n0 c Q a1 H1) : AWp ρ P G n0 c Q a H := fun ro S act hr0 h1 h2 h3 h4 => by
 obtain ⟨S1, e1, e2, e3, e4⟩ := hw S _ h1 h3 h4;have := h ro S1 act hr0 e2 (h2.mono e3.M) (e3.len h3) e4;rw [e1] at this;exact wpIn_mono this fun e _ _ q => q.from e3 (Marks.refl _ _ _ _)
theorem Weak.refl (a : List AV) (H : List Blk) : Weak n0 a H a H := fun S vs h1 h2 h3 => ⟨S, rfl, h1, Ext.refl _ _ _, h3⟩
theorem Weak.trans {a1 a2 : List AV} {H1 H2 : List Blk} (h : Weak n0 a H a1 H1) (k : Weak n0 a1 H1 a2 H2) : Weak n0 a H a2 H2 := fun S vs h1 h2 h3 => by
 obtain ⟨S1, e1, e2, e3, e4⟩ := h S vs h1 h2 h3;obtain ⟨S2, f1, f2, f3, f4⟩ := k S1 vs e2 (e3.len h2) e4;exact ⟨S2, f1.trans e1, f2, e3.trans f3, f4⟩
theorem zaQ9 {F : Fence} {m : Nat} {c : Code} {Q : Exit → Act → World → Prop} (I : Nat → Act → World → Prop) (round : ∀ n a w, I n a w → c.wpIn F m P (Exit.then (fun a' w' => ∃ m, m < n ∧ I m a' w') Q) a w) :
  ∀ n act w, I n act w → (Code.loop c).wpIn F m P Q act w := by
 intro n act w h₀ b k cs hro hb hr;have key : ∀ n act w, I n act w → ∃ e a' w', Q e a' w' ∧ ArrivesIn (Machine.fenced P F) P (lone (b.atR act (.code c :: .inLoop c :: k)) cs w) b k cs e a' w' := by
  intro n;induction n using Nat.strongRecOn with
  | _ n ih =>
   intro act w hI;obtain ⟨e, a₁, w₁, hq, harr⟩ := round n act w hI b (.inLoop c :: k) cs hro hb hr;cases e with
   | normal =>
    obtain ⟨m, hlt, hI₁⟩ := hq;obtain ⟨e₂, a₂, w₂, hq₂, harr₂⟩ := ih m hlt a₁ w₁ hI₁;exact ⟨e₂, a₂, w₂, hq₂, .of_steps (StepsIn.trans harr (.one (fenced_calm hb hr rfl) stepR_inLoop)) harr₂⟩
   | exit id => exact ⟨_, a₁, w₁, hq, .pass (x := .inLoop c) rfl (fun _ _ => .inl (by simp)) harr⟩
   | goto l => exact ⟨_, a₁, w₁, hq, .pass (x := .inLoop c) rfl (fun _ _ => .inl (by simp)) harr⟩
   | ret => exact ⟨_, a₁, w₁, hq, .pass (x := .inLoop c) rfl (fun _ _ => .inl (by simp)) harr⟩
   | panic ch => exact ⟨_, a₁, w₁, hq, .pass (x := .inLoop c) rfl (fun _ _ => .inl (by simp)) harr⟩
   | outgrown => exact ⟨_, a₁, w₁, hq, .pass (x := .inLoop c) rfl (fun _ _ => .inl (by simp)) harr⟩
 obtain ⟨e, a', w', hq, harr⟩ := key n act w h₀;exact ⟨e, a', w', hq, .of_steps (.one (fenced_calm hb hr rfl) stepR_loop) harr⟩
theorem xcE9 {c : Code} (I : Nat → List AV → List Blk → Prop) {n : Nat} {a1 : List AV} {H1 : List Blk} (hw : Weak n0 a H a1 H1) (h0 : I n a1 H1)
  (round : ∀ n a H, I n a H → AWp ρ P G n0 c (kbo9 (fun a' H' => ∃ m a2 H2, m < n ∧ Weak n0 a' H' a2 H2 ∧ I m a2 H2) Q) a H) : AWp ρ P G n0 (.loop c) Q a H := fun ro S act hr0 h1 h2 h3 h4 => by
 obtain ⟨S1, e1, e2, e3, e4⟩ := hw S _ h1 h3 h4;have := zaQ9 (F := fen ro) (m := 0) (P := P) (c := c) (Q := fun e => Ends G n0 S H act.defers (Q e)) (fun n act' w => Ends G n0 S H act.defers (I n) act' w) (fun n act' w hI => ?_) n act S.w ⟨a1, H1, S1, e1, h0, e2, e3, e4, Marks.refl _ _ _ _⟩
 ·exact this
 ·obtain ⟨a', H', S', rfl, hK, hok, hext, ha, hd⟩ := hI;refine wpIn_mono (round n a' H' hK ro S' act' hr0 hok (h2.mono hext.M) (hext.len h3) ha) fun e act'' w' he => ?_;cases e with
  | normal =>
   obtain ⟨a2, H2, S2, rfl, ⟨m, a3, H3, hlt, hwk, hI3⟩, hok2, hext2, ha2, hd2⟩ := he;obtain ⟨S3, f1, f2, f3, f4⟩ := hwk S2 _ hok2 (hext2.len (hext.len h3)) ha2;exact ⟨m, hlt, a3, H3, S3, f1, hI3, f2, (hext.trans hext2).trans f3, f4, (hd.trans hd2 hext.size hext2).mono f3⟩
  | _ => exact Ends.from hext hd he
def van9 (P : Program) (G : Glob) (dr : Bool) (f : AV) (args : List AV) (H : List Blk) (K : AV → List Blk → Prop) : Prop :=
 match f.strip with
 | .fn g cap => f.ok = true ∧ qa0 P g = true ∧ (args.all AV.ok) = true ∧
   (if dr = true then ∃ r, qb0 P G g (args.map AV.strip ++ cap) H r H ∧ K r H else ∃ r H', qb0 P G g (args.map AV.strip ++ cap) H r H' ∧ K r H')
 | .yld b => f.ok = true ∧ (args.all AV.ok) = true ∧
   (if dr = true then ∃ r, kJ0 P G b (args.map AV.strip) H r H ∧ K r H else ∃ r H', kJ0 P G b (args.map AV.strip) H r H' ∧ K r H')
 | _ => False
def zbb9 (P : Program) (G : Glob) (dr g : Bool) (f : AV) (args : List AV) (H : List Blk) (K : AV → List Blk → Prop) : Prop :=
 match f.strip with
 | .fn fn cap => (g = true → f.ok = true ∧ (args.all AV.ok) = true) ∧ qa0 P fn = true ∧ ∃ r, (g = true → qb0 P G fn (args.map AV.strip ++ cap) H r H) ∧ K (.opt g r) H
 | .yld b => dr = false ∧ (if g = true then f.ok = true ∧ (args.all AV.ok) = true ∧ ∃ r H', kJ0 P G b (args.map AV.strip) H r H' ∧ K r H' else K (.tup []) H)
 | _ => False
def kpF (q : Operand → Bool) : Bool := q (.global 0) && !q (.global 2)
def isVC : Op → Bool
 | .call { callee := .value _, .. } => true
 | _ => false
def ownF (q : Operand → Bool) : Bool := q (.global 0) && !q (.global 3)
def atF (q : Operand → Bool) : Bool := q (.global 0) && !q (.global 4)
def pcF (q : Operand → Bool) : Bool := q (.global 0) && !q (.global 5)
def opK (P : Program) (G : Glob) (dr : Operand → Bool) (o : Op) (ρ : Operand → AV) (H : List Blk) (K : AV → List Blk → Prop) : Prop :=
 match o with
 | .call ⟨.value f, args, ts⟩ => van9 P G (dr f) (ρ f) (args.toList.map ρ) H (fun r H' => (kpF dr = true → ∃ E, H' = H ++ E) ∧ (pcF dr = true → ∀ H2, OpSem P G (.call ⟨.value f, args, ts⟩) ρ H2 r H2) ∧ K r H')
 | .makeSlice t l c => if mkF dr = true then ∃ r, Made P (.makeSlice t l c) ρ H r ∧ K r H else if atF dr = true then ∃ b r H', MkAt P (.makeSlice t l c) ρ H b r H' ∧ K r H' else (zd0 P (.makeSlice t l c) ρ H).1 = true ∧ K (zd0 P (.makeSlice t l c) ρ H).2.1 (zd0 P (.makeSlice t l c) ρ H).2.2
 | .buildSlice t n ps => ((xc0 P (.buildSlice t n ps) ρ H).1 = true ∧ K (xc0 P (.buildSlice t n ps) ρ H).2 H) ∨ (ownF dr = true ∧ (qK0 P (.buildSlice t n ps) ρ H).1 = true ∧ K (qK0 P (.buildSlice t n ps) ρ H).2.1 (qK0 P (.buildSlice t n ps) ρ H).2.2)
 | o => if zx0 o = true then (zd0 P o ρ H).1 = true ∧ K (zd0 P o ρ H).2.1 (zd0 P o ρ H).2.2 else (xc0 P o ρ H).1 = true ∧ K (xc0 P o ρ H).2 H
def gopK (P : Program) (G : Glob) (dr : Operand → Bool) (g : Bool) (o : Op) (ρ : Operand → AV) (H : List Blk) (K : AV → List Blk → Prop) : Prop :=
 match o with
 | .call { callee := .value f, args, .. } => zbb9 P G (dr f) g (ρ f) (args.toList.map ρ) H K
 | .makeSlice t l c => if mkF dr = true then ∃ r, (g = true → Made P (.makeSlice t l c) ρ H r) ∧ K (.opt g r) H else g = true ∧ (zd0 P (.makeSlice t l c) ρ H).1 = true ∧ K (zd0 P (.makeSlice t l c) ρ H).2.1 (zd0 P (.makeSlice t l c) ρ H).2.2
 | o => if zx0 o = true then g = true ∧ (zd0 P o ρ H).1 = true ∧ K (zd0 P o ρ H).2.1 (zd0 P o ρ H).2.2 else (g = true → (xc0 P o ρ H).1 = true) ∧ K (.opt g (xc0 P o ρ H).2) H
def tops (P : Program) (G : Glob) (dr : Operand → Bool) (ops : List Oper) (K : List AV → List Blk → Prop) : List Oper → List AV → List Blk → Prop
 | [], a, H => K a H
 | o :: rest, a, H =>
  match o.guard with
  | none => opK P G dr o.op (ev G a) H (fun r H' => tops P G dr ops K rest (putA a o.dst r) H')
  | some (j, want) =>
   match vT0 ops a j want with
   | some g => gopK P G dr g o.op (ev G a) H (fun r H' => tops P G dr ops K rest (putA a o.dst r) H')
   | none => False
theorem xbM9 {t : TypeId} {l c : Operand} {σ : Operand → AV} (h : (zd0 P (.makeSlice t l c) σ H).1 = true) : ∃ E, (zd0 P (.makeSlice t l c) σ H).2.2 = H ++ E := by
 simp only [zd0, l'a] at h ⊢;have h := h.2.2;unfold waE9 at *;split at h
 ·split at h
  ·exact ⟨_, rfl⟩
  ·cases h
 ·cases h
theorem kbB9 {dr : Operand → Bool} {o : Op} {σ : Operand → AV} {K : AV → List Blk → Prop} (hnb0 : ¬ isBs o = true) (h : opK P G dr o σ H K) : ∃ r H', OpSem P G o σ H r H' ∧ (effD dr o = false → H' = H) ∧ K r H' ∧ (kpF dr = true → isVC o = true → ∃ E, H' = H ++ E) ∧ (mkF dr = false → atF dr = true → isMk o = true → ∃ b, MkAt P o σ H b r H') ∧ (atF dr = false → isMk o = true → ∃ E, H' = H ++ E) ∧ (pcF dr = true → isVC o = true → ∀ H2, OpSem P G o σ H2 r H2) := by
 have plain : isMk o = false → isVC o = false → (if zx0 o = true then (zd0 P o σ H).1 = true ∧ K (zd0 P o σ H).2.1 (zd0 P o σ H).2.2 else (xc0 P o σ H).1 = true ∧ K (xc0 P o σ H).2 H) → ∃ r H', OpSem P G o σ H r H' ∧ (effD dr o = false → H' = H) ∧ K r H' ∧ (kpF dr = true → isVC o = true → ∃ E, H' = H ++ E) ∧ (mkF dr = false → atF dr = true → isMk o = true → ∃ b, MkAt P o σ H b r H') ∧ (atF dr = false → isMk o = true → ∃ E, H' = H ++ E) ∧ (pcF dr = true → isVC o = true → ∀ H2, OpSem P G o σ H2 r H2) := by
  intro hm hv h;split at h
  ·rename_i he;exact ⟨_, _, .eff he h.1, fun q => (by simp [effD, he, hm] at q), h.2, fun _ q => (by rw [hv] at q; cases q), fun _ _ q => (by rw [hm] at q; cases q), fun _ q => (by rw [hm] at q; cases q), fun _ q => by rw [hv] at q; cases q⟩
  ·exact ⟨_, _, .pure h.1, fun _ => rfl, h.2, fun _ q => (by rw [hv] at q; cases q), fun _ _ q => (by rw [hm] at q; cases q), fun _ q => (by rw [hm] at q; cases q), fun _ q => by rw [hv] at q; cases q⟩
 unfold opK at h;split at h
 ·rename_i f args ts;unfold van9 at h;split at h
  ·rename_i g cap hf;obtain ⟨h1, h2, h3, h4⟩ := h;have hargs : (args.toList.all fun x => (σ x).ok) = true := by simpa [z'e] using h3
   have hmap : (args.toList.map σ).map AV.strip = args.toList.map fun x => (σ x).strip := by simp
   split at h4
   ·obtain ⟨r, hc, hk⟩ := h4;rw [hmap] at hc;exact ⟨r, H, .call _ f g cap rfl rfl hf h1 h2 hargs r H hc, fun _ => rfl, hk.2.2, fun q _ => hk.1 q, fun _ _ q => (by cases q), fun _ q => (by cases q), fun q _ => hk.2.1 q⟩
   ·rename_i hdr;obtain ⟨r, H', hc, hk⟩ := h4;rw [hmap] at hc;exact ⟨r, H', .call _ f g cap rfl rfl hf h1 h2 hargs r H' hc, fun q => absurd (by simpa [effD, zx0] using q) hdr, hk.2.2, fun q _ => hk.1 q, fun _ _ q => (by cases q), fun _ q => (by cases q), fun q _ => hk.2.1 q⟩
  ·rename_i b hf;obtain ⟨h1, h3, h4⟩ := h;have hargs : (args.toList.all fun x => (σ x).ok) = true := by simpa [z'e] using h3
   have hmap : (args.toList.map σ).map AV.strip = args.toList.map fun x => (σ x).strip := by simp
   split at h4
   ·obtain ⟨r, hc, hk⟩ := h4;rw [hmap] at hc;exact ⟨r, H, .yield _ f b rfl rfl hf h1 hargs r H hc, fun _ => rfl, hk.2.2, fun q _ => hk.1 q, fun _ _ q => (by cases q), fun _ q => (by cases q), fun q _ => hk.2.1 q⟩
   ·rename_i hdr;obtain ⟨r, H', hc, hk⟩ := h4;rw [hmap] at hc;exact ⟨r, H', .yield _ f b rfl rfl hf h1 hargs r H' hc, fun q => absurd (by simpa [effD, zx0] using q) hdr, hk.2.2, fun q _ => hk.1 q, fun _ _ q => (by cases q), fun _ q => (by cases q), fun q _ => hk.2.1 q⟩
  ·exact h.elim
 ·split at h
  ·obtain ⟨r, hm, hk⟩ := h;rename_i hmk0;exact ⟨r, H, .made rfl r hm, fun _ => rfl, hk, fun _ q => (by cases q), fun q _ _ => (by rw [hmk0] at q; cases q), fun _ _ => ⟨[], by simp⟩, fun _ q => by cases q⟩
  ·rename_i hmk;split at h
   ·rename_i hat0;obtain ⟨b, r, H', hm, hk⟩ := h;exact ⟨r, H', .mkat rfl b r H' hm, fun q => (by simp [effD, zx0, isMk, hmk] at q), hk, fun _ q => (by cases q), fun _ _ _ => ⟨b, hm⟩, fun q _ => (by rw [hat0] at q; cases q), fun _ q => by cases q⟩
   ·rename_i hat;exact ⟨_, _, .eff rfl h.1, fun q => (by simp [effD, zx0, isMk, hmk] at q), h.2, fun _ q => (by cases q), fun _ q _ => absurd q hat, fun _ _ => xbM9 h.1, fun _ q => by cases q⟩
 ·exact absurd rfl hnb0
 ·rename_i hne hnm hnb;refine plain ?_ ?_ h
  ·cases o <;> first|rfl|exact absurd rfl (hnm _ _ _)
  ·cases o <;> try rfl
   rename_i c;obtain ⟨c1, c2, c3⟩ := c;cases c1 <;> first|rfl|exact absurd rfl (hne _ _ _)
theorem kbZ9 {dr : Operand → Bool} {o : Op} {σ : Operand → AV} {K : AV → List Blk → Prop} (hown : ownF dr = false) (h : opK P G dr o σ H K) : ∃ r H', OpSem P G o σ H r H' ∧ (effD dr o = false → H' = H) ∧ K r H' ∧ (kpF dr = true → isVC o = true → ∃ E, H' = H ++ E) ∧ (mkF dr = false → atF dr = true → isMk o = true → ∃ b, MkAt P o σ H b r H') ∧ (atF dr = false → isMk o = true → ∃ E, H' = H ++ E) ∧ (pcF dr = true → isVC o = true → ∀ H2, OpSem P G o σ H2 r H2) := by
 by_cases hb : isBs o = true
 ·cases o <;> try (cases hb)
  simp only [opK] at h;rcases h with h|h
  ·exact ⟨_, _, .pure h.1, fun _ => rfl, h.2, fun _ q => (by cases q), fun _ _ q => (by cases q), fun _ q => (by cases q), fun _ q => by cases q⟩
  ·rw [hown] at h; cases h.1
 ·exact kbB9 hb h
theorem xdi9 {dr : Operand → Bool} {o : Op} {σ : Operand → AV} {K : AV → List Blk → Prop} (h : opK P G dr o σ H K) : (∃ r H', OpSem P G o σ H r H' ∧ K r H') ∨ (isBs o = true ∧ (qK0 P o σ H).1 = true ∧ K (qK0 P o σ H).2.1 (qK0 P o σ H).2.2) := by
 by_cases hb : isBs o = true
 ·cases o <;> try (cases hb)
  simp only [opK] at h;rcases h with h|h
  ·exact .inl ⟨_, _, .pure h.1, h.2⟩
  ·exact .inr ⟨rfl, h.2⟩
 grind [kbB9]
theorem xaQ9 {ops : List Oper} {dr : Operand → Bool} {g : Bool} {o : Oper} {a : List AV} {j : Nat} {want : Bool} (hg : o.guard = some (j, want)) (hb : vT0 ops a j want = some g) {K : AV → List Blk → Prop} (h : gopK P G dr g o.op (ev G a) H K) :
  ∃ r H', xk0 P G ops o a H r H' ∧ (effD dr o.op = false → H' = H) ∧ K r H' := by
 have mk : ∀ r H', ((g = true ∧ OpSem P G o.op (ev G a) H r H') ∨ (g = false ∧ r = .tup [] ∧ H' = H) ∨ (∃ v, r = .opt g v ∧ H' = H ∧ (g = true → OpSem P G o.op (ev G a) H v H))) → xk0 P G ops o a H r H' := by
  grind [xk0]
 have plain : isMk o.op = false → (if zx0 o.op = true then g = true ∧ (zd0 P o.op (ev G a) H).1 = true ∧ K (zd0 P o.op (ev G a) H).2.1 (zd0 P o.op (ev G a) H).2.2 else (g = true → (xc0 P o.op (ev G a) H).1 = true) ∧ K (.opt g (xc0 P o.op (ev G a) H).2) H) →
   ∃ r H', xk0 P G ops o a H r H' ∧ (effD dr o.op = false → H' = H) ∧ K r H' := by
  intro hm h;split at h
  ·rename_i he;exact ⟨_, _, mk _ _ (.inl ⟨h.1, .eff he h.2.1⟩), fun q => (by simp [effD, he, hm] at q), h.2.2⟩
  ·exact ⟨_, _, mk _ _ (.inr (.inr ⟨_, rfl, rfl, fun q => .pure (h.1 q)⟩)), fun _ => rfl, h.2⟩
 unfold gopK at h;split at h
 ·rename_i f args ts hop;unfold zbb9 at h;split at h
  ·rename_i fn cap hf;obtain ⟨h1, h2, r, h3, h4⟩ := h;refine ⟨_, _, mk (.opt g r) H (.inr (.inr ⟨r, rfl, rfl, fun q => ?_⟩)), fun _ => rfl, h4⟩;have hargs : (args.toList.all fun x => (ev G a x).ok) = true := by simpa [z'e] using (h1 q).2
   have hmap : (args.toList.map (ev G a)).map AV.strip = args.toList.map fun x => (ev G a x).strip := by simp
   have hc := h3 q;rw [hmap] at hc;exact .call _ f fn cap hop rfl hf (h1 q).1 h2 hargs r H hc
  ·rename_i b hf;obtain ⟨hdr, h⟩ := h;split at h
   ·rename_i hgt;obtain ⟨h1, h3, r, H', hc, hk⟩ := h;have hargs : (args.toList.all fun x => (ev G a x).ok) = true := by simpa [z'e] using h3
    have hmap : (args.toList.map (ev G a)).map AV.strip = args.toList.map fun x => (ev G a x).strip := by simp
    rw [hmap] at hc;refine ⟨r, H', mk r H' (.inl ⟨hgt, .yield _ f b hop rfl hf h1 hargs r H' hc⟩), fun q => ?_, hk⟩;grind [effD, zx0]
   grind
  ·exact h.elim
 ·rename_i t l c hop;split at h
  ·obtain ⟨r, hm, hk⟩ := h;exact ⟨_, _, mk (.opt g r) H (.inr (.inr ⟨r, rfl, rfl, fun q => by rw [hop]; exact .made rfl r (hm q)⟩)), fun _ => rfl, hk⟩
  ·rename_i hmk;exact ⟨_, _, mk _ _ (.inl ⟨h.1, by rw [hop]; exact .eff rfl h.2.1⟩), fun q => (by grind [effD, zx0, isMk]), h.2.2⟩
 ·rename_i hne hnm;refine plain ?_ h
  revert hnm
  cases o.op <;> intro hnm <;> first|rfl|exact absurd rfl (hnm _ _ _)
theorem xq0 {ops : List Oper} {dr : Operand → Bool} {K : List AV → List Blk → Prop} : ∀ (l : List Oper) (a : List AV) (H : List Blk), tops P G dr ops K l a H → wan9 P G ops K l a H
 | [], a, H, h => h
 | o :: l, a, H, h => by
  unfold tops at h;split at h
  ·rename_i hg;rcases xdi9 h with ⟨r, H', h1, h2⟩|⟨h0, h1, h2⟩
   ·exact ⟨r, H', .inl (by unfold xk0; rw [hg]; exact h1), xq0 l _ _ h2⟩
   ·exact ⟨_, _, .inr ⟨hg, h0, h1, rfl, rfl⟩, xq0 l _ _ h2⟩
  ·rename_i j want hg;split at h
   ·rename_i g hb;obtain ⟨r, H', h1, _, h2⟩ := xaQ9 hg hb h;exact ⟨r, H', .inl h1, xq0 l _ _ h2⟩
   ·exact h.elim
theorem qU0 {ops : List Oper} {dr : Operand → Bool} (hown : ownF dr = false) {K : List AV → List Blk → Prop} : ∀ (l : List Oper) (a : List AV) (H : List Blk), tops P G dr ops K l a H → wbZ9 P G dr ops K l a H
 | [], a, H, h => h
 | o :: l, a, H, h => by
  unfold tops at h;split at h
  ·rename_i hg;obtain ⟨r, H', h1, h3, h2, _⟩ := kbZ9 hown h;exact ⟨r, H', ⟨by unfold xk0; rw [hg]; exact h1, h3⟩, qU0 hown l _ _ h2⟩
  ·rename_i j want hg;split at h
   ·rename_i g hb;obtain ⟨r, H', h1, h3, h2⟩ := xaQ9 hg hb h;exact ⟨r, H', ⟨h1, h3⟩, qU0 hown l _ _ h2⟩
   ·exact h.elim
def mFlag (q : Operand → Bool) (o : Oper) : Bool := !mkF q && atF q && isMk o.op && o.guard.isNone
def ChainK (P : Program) (G : Glob) (q : Operand → Bool) (ops : List Oper) (K : List AV → List Blk → Prop) : List Oper → List AV → List Blk → Prop
 | [], a, H => K a H
 | o :: rest, a, H => ∃ r H', (kba9 P G q ops o a H r H' ∧ (kpF q = true → o.guard = none → isVC o.op = true → ∃ E, H' = H ++ E) ∧ (mFlag q o = true → ∃ b, MkAt P o.op (ev G a) H b r H') ∧ (atF q = false → isMk o.op = true → o.guard = none → ∃ E, H' = H ++ E) ∧ (pcF q = true → o.guard = none → isVC o.op = true → ∀ H2, xk0 P G ops o a H2 r H2)) ∧ ChainK P G q ops K rest (putA a o.dst r) H'
theorem zU0 {ops : List Oper} {dr : Operand → Bool} (hown : ownF dr = false) {K : List AV → List Blk → Prop} : ∀ (l : List Oper) (a : List AV) (H : List Blk), tops P G dr ops K l a H → ChainK P G dr ops K l a H
 | [], a, H, h => h
 | o :: l, a, H, h => by
  unfold tops at h;split at h
  ·rename_i hg;obtain ⟨r, H', h1, h3, h2, h4⟩ := kbZ9 hown h;exact ⟨r, H', ⟨⟨by unfold xk0; rw [hg]; exact h1, h3⟩, fun p _ q => h4.1 p q, fun q => by
    simp_all [mFlag, l'a, l'T], fun q w _ => h4.2.2.1 q w, fun p _ q H2 => by grind [xk0]⟩, zU0 hown l _ _ h2⟩
  ·rename_i j want hg;split at h
   ·rename_i g hb;obtain ⟨r, H', h1, h3, h2⟩ := xaQ9 hg hb h;exact ⟨r, H', ⟨⟨h1, h3⟩, fun _ q => (by rw [hg] at q; cases q), fun q => (by simp [mFlag, hg] at q), fun _ _ q => (by rw [hg] at q; cases q), fun _ q => by rw [hg] at q; cases q⟩, zU0 hown l _ _ h2⟩
   ·exact h.elim
def noQ : Operand → Bool := fun _ => false
def allQ : Operand → Bool := fun _ => true
def exQ (ts fs : List Nat) : Operand → Bool
 | .tmp t => !ts.contains t
 | .func f => !fs.contains f
 | _ => true
def mxQ : Operand → Bool
 | .global 1 => false
 | _ => true
def kpQ (ts fs : List Nat) : Operand → Bool
 | .tmp t => !ts.contains t
 | .func f => !fs.contains f
 | .global 2 => false
 | _ => true
theorem xdB9 (f : Operand) : noQ f = false := rfl
theorem wdi9 (f : Operand) : allQ f = true := rfl
theorem vaI9 {id : Nat} {ops : List Oper} {dr : Operand → Bool} (h : tops P G dr ops (Q .normal) ops a H) : AWp ρ P G n0 (.region id ops.toArray false) Q a H := fun ro S act hr0 h1 h2 h3 h4 => by
 refine wpIn_region ?_;have := xav9 (ro := ro) (Q := fun e => Ends G n0 S H act.defers (Q e)) (fun act w q => q) ops 0 a H S act (fun j => by simp) (xq0 _ _ _ h) h1 h2 h3 (Ext.refl _ _ _) h4 (Marks.refl _ _ _ _);grind [List.range_eq_range']
theorem wcE9 {id : Nat} {ops : List Oper} {dr : Operand → Bool} (hown : ownF dr = false) (hm : P.follows .mixedOrders = true) (ho : kav9 dr ops = true) (h : tops P G dr ops (Q .normal) ops a H) : AWp ρ P G n0 (.region id ops.toArray true) Q a H := fun ro S act hr0 h1 h2 h3 h4 => by
 refine wpIn_region_any hm ?_;obtain ⟨T, hT, hlex⟩ := wbo9 ho;have hA := waI9 (md := .any) hT ops 0 (Array.replicate ops.length false) a H (fun j => by simp) hlex (fun k o _ hk => by
  exfalso;rw [Array.getD_eq_getD_getElem?] at hk;grind) (qU0 hown _ _ _ h)
 let S1 : St := S.with (S.w.drewN 1)
 have hok1 : S1.Ok H := ⟨h1.imm, h1.row, h1.ob, h1.inj⟩;have hext : Ext n0 S H S1 H := ⟨rfl, rfl, rfl, l'd _, fun _ _ _ => rfl, fun _ _ q => q, fun _ q => .inl q, fun _ q => .inl q, fun _ _ _ _ q => ⟨_, l'd _, q, fun _ => rfl⟩, fun _ _ _ q => q, fun q => q⟩;have := vbo9 (ro := ro) (Q := fun e => Ends G n0 S H act.defers (Q e)) (fun act w q => q) ops.length (Array.replicate ops.length false) a H S1 act hA hok1 h2 h3 hext h4 (Marks.refl _ _ _ _);have e : ops.toArray.size = ops.length := by simp
 rw [e];exact this
end
end Go.V
