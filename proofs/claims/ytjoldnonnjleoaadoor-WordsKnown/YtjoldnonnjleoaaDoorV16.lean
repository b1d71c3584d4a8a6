/- The library V, part 16: regions that draw their order. -/
import Derived.Test.YtjoldnonnjleoaaDoorV13
import Derived.RangeFuncRecord
import Derived.OrdersIn
/- The library V, part 14: operands; one operation of a region, in the order of the text. -/
set_option linter.unusedVariables false
set_option linter.unusedSimpArgs false
namespace Go.V
open Go Go.RowKit

/-- What the package-level variables hold: number of the variable, its cells. -/
abbrev Glob := Nat → Option (List AV)
def Env0 (M : Mem) : Env := ⟨M, fun _ => none, fun _ => none, fun _ => none⟩
def Globs (G : Glob) (M : Mem) : Prop := ∀ g cs, G g = some cs → ∃ (vs : List Value) (t : TypeId) (fr : Nat × Nat), M g = some (.cells vs.toArray t fr) ∧ RelL (Env0 M) cs vs ∧ ∀ u ∈ vs, u.oneCell' = true
theorem Globs.relC {G : Glob} {M : Mem} (h : Globs G M) {g : Nat} {cs : List AV} (hg : G g = some cs) : RelC (Env0 M) cs g 0 := by
  obtain ⟨vs, t, fr, h1, h2, h3⟩ := h g cs hg
  refine RelC.mk fun j a hj => ?_
  obtain ⟨v, hv, hr⟩ := h2.get hj
  exact ⟨v, by simp [mcell, Env0, h1, hv], h3 v (List.mem_of_getElem? hv), hr⟩
theorem env0_le (M M' : Mem) (h : ∀ k o, M k = some o → M' k = some o) (E : Env) (hE : E.M = M') : (Env0 M).le E :=
  ⟨(by rw [hE]; exact h), fun b s cur q => (by cases q), fun b g q => (by cases q)⟩
theorem Globs.mono {G : Glob} {M M' : Mem} (hg : Globs G M) (h : ∀ k o, M k = some o → M' k = some o) : Globs G M' :=
  fun g cs hc => let ⟨vs, t, fr, h1, h2, h3⟩ := hg g cs hc; ⟨vs, t, fr, h _ _ h1, RelL.mono (env0_le M M' h _ rfl) _ _ h2, h3⟩

def getA (a : List AV) (t : Nat) : AV := a.getD t (.tup [])
def putA (a : List AV) (d : Option Tmp) (v : AV) : List AV :=
  match d with
  | some d => a.set d v
  | none => a
def ev (G : Glob) (a : List AV) : Operand → AV
  | .tmp t => getA a t
  | .const v => ofVal v
  | .global g => match G g with | some cs => .iptr cs 0 | none => .top
  | .func f => .fn f []

theorem length_putA (a : List AV) (d : Option Tmp) (v : AV) : (putA a d v).length = a.length := by cases d <;> simp [putA]
theorem getA_putA_same {a : List AV} {t : Nat} (v : AV) (h : t < a.length) : getA (putA a (some t) v) t = v := by
  simp [getA, putA, List.getD_eq_getElem?_getD, h]
theorem getA_putA_ne {a : List AV} {t d : Nat} (v : AV) (h : d ≠ t) : getA (putA a (some d) v) t = getA a t := by
  simp [getA, putA, List.getD_eq_getElem?_getD, List.getElem?_set_ne h]
theorem getA_putA_none (a : List AV) (t : Nat) (v : AV) : getA (putA a none v) t = getA a t := rfl
theorem putA_comm (a : List AV) {x y : Option Tmp} (v u : AV) (h : ∀ d, x = some d → y ≠ some d) : putA (putA a x v) y u = putA (putA a y u) x v := by
  cases x with
  | none => rfl
  | some d =>
    cases y with
    | none => rfl
    | some e =>
      have hne : d ≠ e := fun q => h d rfl (by rw [q])
      simp only [putA]
      exact List.set_comm _ _ hne

theorem rel_getA {E : Env} {a : List AV} {ts : Array Value} (h : RelL E a ts.toList) (t : Nat) : Rel E (getA a t) (ts.getD t undef) := by
  unfold getA
  rw [List.getD_eq_getElem?_getD]
  cases ha : a[t]? with
  | none =>
    have : ts.size ≤ t := by
      have h1 := List.getElem?_eq_none_iff.1 ha
      have := h.length
      simp at this
      omega
    rw [Array.getD_eq_getD_getElem?, Array.getElem?_eq_none this]
    simp [Rel, RelL, undef]
  | some v =>
    obtain ⟨u, hu, hr⟩ := h.get ha
    have : ts[t]? = some u := by simpa using hu
    rw [Array.getD_eq_getD_getElem?, this]
    exact hr
theorem rel_ev {G : Glob} {S : St} {H : List Blk} {a : List AV} {act : Act} (hG : Globs G S.M) (h : RelL (S.env H) a act.tmps.toList) (x : Operand) : Rel (S.env H) (ev G a x) (act.eval x) := by
  cases x with
  | tmp t => exact rel_getA h t
  | const v => exact rel_ofVal _ v
  | global g =>
    simp only [ev, Act.eval]
    split
    · rename_i cs hg
      simp only [Rel]
      exact ⟨g, 0, rfl, (hG.relC hg).mono (env0_le S.M S.M (fun _ _ h => h) _ rfl)⟩
    · simp [Rel]
  | func f => simp [ev, Act.eval, Rel, RelL]
theorem relL_put {E : Env} {a : List AV} {act : Act} (h : RelL E a act.tmps.toList) (d : Option Tmp) {r : AV} {v : Value} (hr : Rel E r v) : RelL E (putA a d r) (act.put d v).tmps.toList := by
  cases d with
  | none => exact h
  | some d => simpa [putA, Act.put] using h.set d hr

section
variable {P : Program} {S : St} {H : List Blk}

theorem estep_ok (hok : S.Ok H) {ρ : Operand → AV} {ρv : Operand → Value} (hρ : ∀ x, Rel (S.env H) (ρ x) (ρv x)) (o : Oper) (h : (estep P o.op ρ H).1 = true) :
    Turns P S H (execOp ρv o) (estep P o.op ρ H).2.1 (estep P o.op ρ H).2.2 := by
  obtain ⟨dst, op, type, pos, after, guard⟩ := o
  simp only at h ⊢
  have st : ∀ x, (ρ x).ok = true → Rel (S.env H) (ρ x).strip (ρv x) := fun x hx => (hρ x).strip hx
  cases op with
  | alloc t => exact eAlloc_ok hok h
  | box t x =>
    simp only [estep, Bool.and_eq_true] at h ⊢
    exact eBox_ok hok (st x h.1) h.2
  | store t p x =>
    simp only [estep, Bool.and_eq_true] at h ⊢
    exact eStore_ok hok (st p h.1) (st x h.2.1) h.2.2
  | makeSlice t l c =>
    simp only [estep, Bool.and_eq_true] at h ⊢
    exact eMake_ok hok (st l h.1) (st c h.2.1) h.2.2
  | call c =>
    obtain ⟨callee, args, argTypes⟩ := c
    cases callee with
    | builtin b =>
      cases b with
      | append =>
        simp only [estep] at h ⊢
        split at h
        · rename_i d x t t1 ha ht
          simp only [Bool.and_eq_true] at h
          have := eAppend_ok (P := P) (ty := type) hok (st d h.1) (st x h.2.1) h.2.2
          have hA : args.map ρv = #[ρv d, ρv x] := by apply Array.ext'; simp [ha]
          have hT : argTypes = #[t, t1] := by apply Array.ext'; simp [ht]
          obtain ⟨nx, v, S', h1, h2⟩ := this
          refine ⟨nx, v, S', ?_, h2⟩
          simpa [execOp, resolve, invoke, builtin, hA, hT] using h1
        · cases h
      | _ => cases h
    | _ => cases h
  | _ => cases h
end

/-- A call of function f: what it comes to. -/
def ACalls (P : Program) (G : Glob) (f : FuncId) (args : List AV) (H : List Blk) (r : AV) (H' : List Blk) : Prop :=
  ∀ (S : St) (vals : List Value), S.Ok H → Globs G S.M → RelL (S.env H) args vals →
    Calls P f vals.toArray S.w fun e w' => ∃ v S', e = .returned v ∧ S'.w = w' ∧ S'.Ok H' ∧ Ext H.length S H S' H' ∧ Rel (S'.env H') r v

/-- Code runs in an activation's own frame (none), or in a round of the loop l. -/
def fen (ro : Option Nat) : Fence := { Fence.wide with round := ro }
theorem fen_room (ro : Option Nat) (n : Nat) : (fen ro).room n := fun d hd => by cases hd
theorem callsIn_fen {ro : Option Nat} {n : Nat} {P : Program} {f : FuncId} {args : Array Value} {w : World} {R : Ending → World → Prop} (h : Calls P f args w R) : CallsIn (fen ro) n P f args w R := (callsIn_wide (n := n)).2 h

/-- A call of the function that stands for a loop's body. -/
def AYield (P : Program) (G : Glob) (b : Nat) (args : List AV) (H : List Blk) (r : AV) (H' : List Blk) : Prop :=
  ∀ (S : St) (vals : List Value) (l : Nat), S.Ok H → Globs G S.M → RelL (S.env H) args vals → mpOf S.ν H b = some l →
    ∃ fn tmps assign body, (Instr.yield l vals.toArray).run P S.w = .ok (.round l fn tmps assign body) S.w ∧
      RoundIn Fence.wide 0 P l fn tmps assign body S.w fun e w' => ∃ v S', e = .returned v ∧ S'.w = w' ∧ S'.Ok H' ∧ Ext H.length S H S' H' ∧ Rel (S'.env H') r v

/-- The function has a body (closed: the kernel reckons it). -/
def enters (P : Program) (f : FuncId) : Bool :=
  match P.funcs[f]? with
  | some fn => fn.name != "runtime.NumGoroutine" && fn.body.isSome
  | none => false

/-- One operation, its guard apart. -/
inductive OpSem (P : Program) (G : Glob) (o : Op) (ρ : Operand → AV) (H : List Blk) : AV → List Blk → Prop where
  | pure (h : (pstep P o ρ H).1 = true) : OpSem P G o ρ H (pstep P o ρ H).2 H
  | eff (he : isEff o = true) (h : (estep P o ρ H).1 = true) : OpSem P G o ρ H (estep P o ρ H).2.1 (estep P o ρ H).2.2
  | call (c : Call) (f : Operand) (g : FuncId) (cap : List AV) (ho : o = .call c) (hc : c.callee = .value f) (hf : (ρ f).strip = .fn g cap) (hk : (ρ f).ok = true) (hent : enters P g = true)
      (hargs : (c.args.toList.all fun x => (ρ x).ok) = true) (r : AV) (H' : List Blk) (h : ACalls P G g ((c.args.toList.map fun x => (ρ x).strip) ++ cap) H r H') : OpSem P G o ρ H r H'
  | yield (c : Call) (f : Operand) (b : Nat) (ho : o = .call c) (hc : c.callee = .value f) (hf : (ρ f).strip = .yld b) (hk : (ρ f).ok = true)
      (hargs : (c.args.toList.all fun x => (ρ x).ok) = true) (r : AV) (H' : List Blk) (h : AYield P G b (c.args.toList.map fun x => (ρ x).strip) H r H') : OpSem P G o ρ H r H'

theorem opSem_wp {P : Program} {G : Glob} {S : St} {H H' : List Blk} {r : AV} {a : List AV} {act : Act} {o : Oper} (h : OpSem P G o.op (ev G a) H r H') (hok : S.Ok H) (hG : Globs G S.M) (ha : RelL (S.env H) a act.tmps.toList)
    {K : Act → World → Prop} {Q : Exit → Act → World → Prop} (hK : ∀ v S', S'.Ok H' → Ext H.length S H S' H' → Rel (S'.env H') r v → K (act.put o.dst v) S'.w) {ro : Option Nat} : o.wpIn (fen ro) 0 P act S.w K Q := by
  have hρ := fun x => rel_ev (act := act) hG ha x
  refine ⟨fun _ _ => trivial, ?_⟩
  cases h with
  | pure h =>
    obtain ⟨v, S', h1, h2, h3, h4⟩ := pstep_ok hok hρ (fun v => rfl) o h
    rw [Oper.semAt_eq _ _ _ (fun c hc => by rw [hc] at h; cases h), h1]
    exact hK v S' h2 h3 h4
  | eff he h =>
    obtain ⟨nx, v, S', h1, hnx, h2, h3, h4⟩ := estep_ok hok hρ o h
    rw [Oper.semAt_eq _ _ _ (fun c hc => by rw [hc] at he; cases he), h1]
    rcases hnx with rfl | ⟨rfl, rfl⟩
    · exact hK v S' h2 h3 h4
    · exact hK undef S' h2 h3 h4
  | call c f g cap ho hc hf hk hent hargs r H' h =>
    have hfv := (hρ f).strip hk
    rw [hf] at hfv
    simp only [Rel] at hfv
    obtain ⟨caps, hfe, hcap⟩ := hfv
    have hrel : RelL (S.env H) ((c.args.toList.map fun x => (ev G a x).strip) ++ cap) (c.args.toList.map act.eval ++ caps) := by
      refine RelL.append (RelL.mk (by simp) fun i x v hx hv => ?_) hcap
      rw [List.getElem?_map] at hx hv
      cases hz : c.args.toList[i]? with
      | none => rw [hz] at hx; cases hx
      | some z =>
        rw [hz] at hx hv
        injection hx with hx; injection hv with hv; subst hx; subst hv
        exact (hρ z).strip (List.all_eq_true.1 hargs z (List.mem_of_getElem? hz))
    have hcall := h S _ hok hG hrel
    unfold enters at hent
    split at hent
    · rename_i fn hfn
      simp only [Bool.and_eq_true, bne_iff_ne, ne_eq, Option.isSome_iff_exists] at hent
      obtain ⟨hname, body, hbody⟩ := hent
      have hn : (fn.name == "runtime.NumGoroutine") = false := by simpa using hname
      have hrun : (execOp act.eval o).run P S.w = .ok (.enter g (c.args.toList.map act.eval ++ caps).toArray) S.w := by
        have harr : c.args.map act.eval ++ caps.toArray = (c.args.toList.map act.eval ++ caps).toArray := by apply Array.ext'; simp
        simp only [execOp, ho, resolve, hc, hfe, Deferred.ofValue]
        simp [invoke, callFunc, hfn, hn, hbody]
        rw [← harr]
        simp
        exact hname
      rw [Oper.semAt_eq _ _ _ (fun c' hc' => by rw [ho] at hc'; cases hc'), hrun]
      refine ⟨fun q => (by cases q), callsIn_fen (hcall.mono fun e w' hh => ?_)⟩
      obtain ⟨v, S', rfl, rfl, h2, h3, h4⟩ := hh
      exact hK v S' h2 h3 h4
    · cases hent
  | yield c f b ho hc hf hk hargs r H' h =>
    have hfv := (hρ f).strip hk
    rw [hf] at hfv
    simp only [Rel] at hfv
    obtain ⟨l, hl, hfe⟩ := hfv
    have hrel : RelL (S.env H) (c.args.toList.map fun x => (ev G a x).strip) (c.args.toList.map act.eval) := by
      refine RelL.mk (by simp) fun i x v hx hv => ?_
      rw [List.getElem?_map] at hx hv
      cases hz : c.args.toList[i]? with
      | none => rw [hz] at hx; cases hx
      | some z =>
        rw [hz] at hx hv
        injection hx with hx; injection hv with hv; subst hx; subst hv
        exact (hρ z).strip (List.all_eq_true.1 hargs z (List.mem_of_getElem? hz))
    obtain ⟨fn, tmps, assign, body, hy, hround⟩ := h S _ l hok hG hrel hl
    have hrun : (execOp act.eval o).run P S.w = .ok (.round l fn tmps assign body) S.w := by
      have harr : c.args.map act.eval = (c.args.toList.map act.eval).toArray := by apply Array.ext'; simp
      simp only [execOp, ho, resolve, hc, hfe, Deferred.ofValue]
      simp only [invoke, Sem.run_bind, Sem.run_pure, Result.andThen_ok]
      rw [← hy, ← harr]
      simp
    rw [Oper.semAt_eq _ _ _ (fun c' hc' => by rw [ho] at hc'; cases hc'), hrun]
    refine ⟨fun q => (by cases q), RoundIn.mono (F := fen ro) hround fun e w' hh => ?_⟩
    obtain ⟨v, S', rfl, rfl, h2, h3, h4⟩ := hh
    exact hK v S' h2 h3 h4
end Go.V
/- The library V, part 15: regions. -/
set_option linter.unusedVariables false
set_option linter.unusedSimpArgs false
namespace Go.V
open Go Go.RowKit

/-- Whether a guarded operation is carried out. -/
def gOf (v : AV) (want : Bool) : Option Bool :=
  match v with
  | .bool b => some (b == want)
  | .opt g (.bool b) => some (g && (b == want))
  | .tup [] => some false
  | _ => none
def gBool (ops : List Oper) (a : List AV) (j : Nat) (want : Bool) : Option Bool :=
  match ops[j]? with
  | some o =>
    match o.dst with
    | some d => gOf (getA a d) want
    | none => some false
  | none => some false

/-- One operation, its guard with it. -/
def Step1 (P : Program) (G : Glob) (ops : List Oper) (o : Oper) (a : List AV) (H : List Blk) (r : AV) (H' : List Blk) : Prop :=
  match o.guard with
  | none => OpSem P G o.op (ev G a) H r H'
  | some (j, want) => ∃ g, gBool ops a j want = some g ∧
      ((g = true ∧ OpSem P G o.op (ev G a) H r H') ∨ (g = false ∧ r = .tup [] ∧ H' = H) ∨ (∃ v, r = .opt g v ∧ H' = H ∧ (g = true → OpSem P G o.op (ev G a) H v H)))

theorem gBool_wanted {ops : List Oper} {a : List AV} {E : Env} {act : Act} (ha : RelL E a act.tmps.toList) {o : Oper} {j : Nat} {want g : Bool} (hg : o.guard = some (j, want)) (h : gBool ops a j want = some g) :
    Region.wanted o (yielded ops.toArray act.tmps) = g := by
  unfold Region.wanted
  rw [hg]
  unfold gBool at h
  simp only [yielded, List.getElem?_toArray]
  cases ho : ops[j]? with
  | none =>
    rw [ho] at h; cases h; rfl
  | some o' =>
    rw [ho] at h
    simp only at h
    cases hd : o'.dst with
    | none =>
      rw [hd] at h; injection h with h; subst h
      simp [hd]
    | some d =>
      rw [hd] at h
      simp only [gOf] at h
      simp only [Option.bind_some, hd]
      have hr := rel_getA ha d
      have hl := ha.length
      simp only [Array.length_toList] at hl
      have hget : ∀ v, act.tmps.getD d undef = v → v ≠ undef → act.tmps[d]? = some v := by
        intro v hv hne
        rw [Array.getD_eq_getD_getElem?] at hv
        cases hq : act.tmps[d]? with
        | none => rw [hq] at hv; exact absurd hv.symm hne
        | some u => rw [hq] at hv; simp at hv; rw [hv]
      have hund : act.tmps.getD d undef = undef → act.tmps[d]? = none ∨ act.tmps[d]? = some undef := by
        intro hv
        rw [Array.getD_eq_getD_getElem?] at hv
        cases hq : act.tmps[d]? with
        | none => exact .inl rfl
        | some u => rw [hq] at hv; simp at hv; subst hv; exact .inr rfl
      split at h
      · rename_i b hb
        rw [hb] at hr
        have hv : act.tmps.getD d undef = .bool b := by simpa [Rel] using hr
        injection h with h; subst h
        rw [hget _ hv (by simp [undef])]
        cases b <;> cases want <;> rfl
      · rename_i g' b hb
        rw [hb] at hr
        simp only [Rel] at hr
        injection h with h; subst h
        cases g' with
        | true =>
          have hv : act.tmps.getD d undef = .bool b := hr.1 rfl
          rw [hget _ hv (by simp [undef])]
          cases b <;> cases want <;> rfl
        | false =>
          rcases hund (hr.2 rfl) with q | q <;> rw [q] <;> rfl
      · rename_i hb
        rw [hb] at hr
        simp only [Rel] at hr
        obtain ⟨vs, hv, hvs⟩ := hr
        simp only [RelL] at hvs
        subst hvs
        injection h with h; subst h
        rcases hund (by rw [hv]; rfl) with q | q <;> rw [q] <;> rfl
      · cases h

theorem step1_wp {P : Program} {G : Glob} {S : St} {ops : List Oper} {H H' : List Blk} {r : AV} {a : List AV} {act : Act} {o : Oper} (h : Step1 P G ops o a H r H') (hok : S.Ok H) (hG : Globs G S.M) (ha : RelL (S.env H) a act.tmps.toList)
    {K : Act → World → Prop} {Q : Exit → Act → World → Prop} (hK : ∀ v S', S'.Ok H' → Ext H.length S H S' H' → Rel (S'.env H') r v → K (act.put o.dst v) S'.w) {ro : Option Nat} :
    (if Region.wanted o (yielded ops.toArray act.tmps) = true then o.wpIn (fen ro) 0 P act S.w K Q else (∀ f, o.about P S.w act.eval = some f → (fen ro).fn f) ∧ K (act.put o.dst undef) S.w) := by
  unfold Step1 at h
  split at h
  · rename_i hg
    have hw : Region.wanted o (yielded ops.toArray act.tmps) = true := by simp [Region.wanted, hg]
    rw [if_pos hw]
    exact opSem_wp h hok hG ha hK
  · rename_i j want hg
    obtain ⟨g, hgb, hcase⟩ := h
    have hw := gBool_wanted ha hg hgb
    rw [hw]
    rcases hcase with ⟨rfl, h⟩ | ⟨rfl, rfl, rfl⟩ | ⟨v, rfl, rfl, h⟩
    · exact opSem_wp h hok hG ha hK
    · exact ⟨fun _ _ => trivial, hK undef S hok (Ext.refl _ _ _) (by simp [Rel, RelL, undef])⟩
    · cases g with
      | true =>
        refine opSem_wp (h rfl) hok hG ha fun u S' h1 h2 h3 => hK u S' h1 h2 ?_
        simp only [Rel]
        exact ⟨fun _ => h3, fun q => by cases q⟩
      | false =>
        refine ⟨fun _ _ => trivial, hK undef S hok (Ext.refl _ _ _) ?_⟩
        simp only [Rel]
        exact ⟨fun q => (by cases q), fun _ => trivial⟩

/-- The operations in the order of the text. -/
def Chain (P : Program) (G : Glob) (ops : List Oper) (K : List AV → List Blk → Prop) : List Oper → List AV → List Blk → Prop
  | [], a, H => K a H
  | o :: rest, a, H => ∃ r H', Step1 P G ops o a H r H' ∧ Chain P G ops K rest (putA a o.dst r) H'

/-- The mark that a range over a function leaves among the deferred calls. -/
def mark (g : Nat) : Deferred := { target := .collected g, args := #[] }
/-- A block of the heap that is neither own nor immutable. -/
def St.Free (S : St) (H : List Blk) (g : Nat) : Prop := ¬ S.Owns H g ∧ S.M g = none
theorem St.Free.ext {n0 : Nat} {S S' : St} {H H' : List Blk} {g : Nat} (h : S.Free H g) (hg : g < S.w.heap.size) (he : Ext n0 S H S' H') : S'.Free H' g ∧ S'.w.heap[g]? = S.w.heap[g]? := by
  refine ⟨⟨fun q => ?_, ?_⟩, he.keep g hg h.1⟩
  · rcases he.own g q with q | q
    · exact h.1 q
    · omega
  · cases hM : S'.M g with
    | none => rfl
    | some o =>
      rcases he.dom g (by rw [hM]; simp) with q | q | q
      · exact absurd h.2 q
      · exact absurd q h.1
      · omega
/-- Marks alone have come to the deferred calls: of new blocks, which stand open and empty till the function ends. -/
def Marks (S : St) (ds : List Deferred) (S' : St) (H' : List Blk) (ds' : List Deferred) : Prop :=
  ∃ Ds : List Nat, ds' = Ds.map mark ++ ds ∧ Ds.Pairwise (fun x y => y < x) ∧ ∀ g ∈ Ds, S.w.heap.size ≤ g ∧ S'.Free H' g ∧ S'.w.heap[g]? = some (.deferred (some []))
theorem Marks.refl (S S' : St) (H' : List Blk) (ds : List Deferred) : Marks S ds S' H' ds := ⟨[], rfl, .nil, fun _ h => by cases h⟩
theorem Marks.mono {n0 : Nat} {S S1 S2 : St} {H1 H2 : List Blk} {ds ds' : List Deferred} (h : Marks S ds S1 H1 ds') (he : Ext n0 S1 H1 S2 H2) : Marks S ds S2 H2 ds' := by
  obtain ⟨D, e, p, q⟩ := h
  refine ⟨D, e, p, fun g hg => ?_⟩
  obtain ⟨q1, q2, q3⟩ := q g hg
  obtain ⟨r1, r2⟩ := q2.ext (Array.getElem?_eq_some_iff.1 q3).1 he
  exact ⟨q1, r1, r2.trans q3⟩
theorem Marks.trans {n0 : Nat} {S S1 S2 : St} {H1 H2 : List Blk} {ds ds1 ds2 : List Deferred} (h : Marks S ds S1 H1 ds1) (k : Marks S1 ds1 S2 H2 ds2) (hsz : S.w.heap.size ≤ S1.w.heap.size) (he : Ext n0 S1 H1 S2 H2) : Marks S ds S2 H2 ds2 := by
  obtain ⟨D1, e1, p1, q1'⟩ := h.mono he
  have h1 : ∀ g ∈ D1, g < S1.w.heap.size := fun g hg => by
    obtain ⟨D1', e1', _, q⟩ := h
    have : D1' = D1 := by
      rw [e1] at e1'
      have := List.append_cancel_right e1'
      exact (List.map_inj_right (f := mark) fun x y hxy => by simpa [mark] using hxy).1 this.symm
    subst this
    exact (Array.getElem?_eq_some_iff.1 (q g hg).2.2).1
  obtain ⟨D2, e2, p2, q2⟩ := k
  refine ⟨D2 ++ D1, by rw [e2, e1]; simp, List.pairwise_append.2 ⟨p2, p1, fun x hx y hy => ?_⟩, fun g hg => ?_⟩
  · have := (q2 x hx).1
    have := h1 y hy
    omega
  · rcases List.mem_append.1 hg with h | h
    · exact ⟨Nat.le_trans hsz (q2 g h).1, (q2 g h).2⟩
    · exact q1' g h

/-- What the state is in which a piece of code ends. -/
def Ends (G : Glob) (n0 : Nat) (S : St) (H : List Blk) (ds : List Deferred) (Q : List AV → List Blk → Prop) (act : Act) (w : World) : Prop :=
  ∃ a' H' S', S'.w = w ∧ Q a' H' ∧ S'.Ok H' ∧ Ext n0 S H S' H' ∧ RelL (S'.env H') a' act.tmps.toList ∧ Marks S ds S' H' act.defers

theorem chain_wpOps {P : Program} {G : Glob} {n0 : Nat} {S0 : St} {H0 : List Blk} {ops : List Oper} {K : List AV → List Blk → Prop} {ds : List Deferred} {Q : Exit → Act → World → Prop} {ro : Option Nat}
    (hQ : ∀ act w, Ends G n0 S0 H0 ds K act w → Q .normal act w) :
    ∀ (l : List Oper) (k : Nat) (a : List AV) (H : List Blk) (S : St) (act : Act), (∀ j, l[j]? = ops[k + j]?) → Chain P G ops K l a H → S.Ok H → Globs G S.M → n0 ≤ H.length → Ext n0 S0 H0 S H → RelL (S.env H) a act.tmps.toList → Marks S0 ds S H act.defers →
      wpOpsIn (fen ro) 0 P ops.toArray Q (List.range' k l.length) act S.w
  | [], k, a, H, S, act, hl, hc, hok, hG, hn, hext, ha, hd => hQ _ _ ⟨a, H, S, rfl, hc, hok, hext, ha, hd⟩
  | o :: l, k, a, H, S, act, hl, hc, hok, hG, hn, hext, ha, hd => by
    obtain ⟨r, H', hs, hc'⟩ := hc
    have h0 : ops.toArray[k]? = some o := by have := hl 0; simpa using this.symm
    have hs1 := step1_wp (Q := Q) (ro := ro) (K := wpOpsIn (fen ro) 0 P ops.toArray Q (List.range' (k + 1) l.length)) hs hok hG ha fun v S' h1 h2 h3 => by
      have hlen : H.length ≤ H'.length := h2.len (Nat.le_refl _)
      exact chain_wpOps hQ l (k + 1) _ H' S' _ (fun j => by have := hl (j + 1); simpa [Nat.add_assoc, Nat.add_comm 1 j] using this) hc' h1 (hG.mono h2.M) (by omega) (hext.trans (h2.less hn (Nat.le_refl _))) (relL_put (RelL.mono (h2.le (Nat.le_refl _)) _ _ ha) _ h3) (by
        have e : (act.put o.dst v).defers = act.defers := by cases o.dst <;> rfl
        rw [e]; exact hd.mono h2)
    simp only [List.length_cons, List.range'_succ, wpOpsIn, h0]
    exact hs1
end Go.V
set_option linter.unusedVariables false
set_option linter.unusedSimpArgs false
namespace Go.V
open Go Go.RowKit

section congr
variable {P : Program} {G : Glob} {H : List Blk} {ρ ρ' : Operand → AV}

theorem list_congr {β : Type} (l : List Operand) (f : AV → β) (h : ∀ x ∈ l, ρ x = ρ' x) : (l.map fun x => f (ρ x)) = l.map fun x => f (ρ' x) :=
  List.map_congr_left fun x hx => by rw [h x hx]
theorem all_congr' (l : List Operand) (h : ∀ x ∈ l, ρ x = ρ' x) : (l.all fun x => (ρ x).ok) = l.all fun x => (ρ' x).ok := by
  induction l with
  | nil => rfl
  | cons x l ih => simp [h x (by simp), ih fun y hy => h y (List.mem_cons_of_mem _ hy)]
theorem parts_congr (l : List (Nat × Operand)) (h : ∀ x ∈ l.map (·.2), ρ x = ρ' x) : (l.map fun p => (p.1, (ρ p.2).strip)) = l.map fun p => (p.1, (ρ' p.2).strip) :=
  List.map_congr_left fun p hp => by rw [h p.2 (List.mem_map.2 ⟨p, hp, rfl⟩)]
theorem parts_all (l : List (Nat × Operand)) (h : ∀ x ∈ l.map (·.2), ρ x = ρ' x) : (l.all fun p => (ρ p.2).ok) = l.all fun p => (ρ' p.2).ok := by
  induction l with
  | nil => rfl
  | cons p l ih => simp [h p.2 (by simp), ih fun y hy => h y (by simp at hy ⊢; exact .inr hy)]

theorem pstep_congr (o : Op) (h : ∀ x ∈ o.operands, ρ x = ρ' x) : pstep P o ρ H = pstep P o ρ' H := by
  cases o with
  | move x => simp only [pstep, h x (by simp [Op.operands])]
  | assign x => simp only [pstep, h x (by simp [Op.operands])]
  | pick c x y => simp only [pstep, h c (by simp [Op.operands]), h x (by simp [Op.operands]), h y (by simp [Op.operands])]
  | load t p => simp only [pstep, h p (by simp [Op.operands])]
  | nilCheck x => simp only [pstep, h x (by simp [Op.operands])]
  | fieldAddr s x f => simp only [pstep, h x (by simp [Op.operands])]
  | field s x f => simp only [pstep, h x (by simp [Op.operands])]
  | indexAddr t x i => simp only [pstep, h x (by simp [Op.operands]), h i (by simp [Op.operands])]
  | index t x i => simp only [pstep, h x (by simp [Op.operands]), h i (by simp [Op.operands])]
  | binOp op t x y yt =>
    simp only [pstep]
    split
    · simp only [h x (by simp [Op.operands])]
    · simp only [h x (by simp [Op.operands]), h y (by simp [Op.operands])]
  | unOp op t x => simp only [pstep, h x (by simp [Op.operands])]
  | convert s d x => simp only [pstep, h x (by simp [Op.operands])]
  | extract x i => simp only [pstep, h x (by simp [Op.operands])]
  | slice t x lo hi mx =>
    have hx := h x (by simp [Op.operands])
    have ho : ∀ (y : Option Operand), (∀ z, y = some z → ρ z = ρ' z) → (y.map fun z => (ρ z).strip) = (y.map fun z => (ρ' z).strip) ∧ (y.all fun z => (ρ z).ok) = (y.all fun z => (ρ' z).ok) := fun y hy => by
      cases y with
      | none => exact ⟨rfl, rfl⟩
      | some z => simp [hy z rfl]
    have h1 := ho lo fun z hz => h z (by simp [Op.operands, hz])
    have h2 := ho hi fun z hz => h z (by simp [Op.operands, hz])
    have h3 := ho mx fun z hz => h z (by simp [Op.operands, hz])
    simp only [pstep, hx, h1.1, h1.2, h2.1, h2.2, h3.1, h3.2]
  | build t ps =>
    have hp : ∀ x ∈ ps.toList.map (·.2), ρ x = ρ' x := fun x hx => h x (by simpa [Op.operands] using hx)
    simp only [pstep, parts_congr _ hp, parts_all _ hp]
  | buildSlice t n ps =>
    have hp : ∀ x ∈ ps.toList.map (·.2), ρ x = ρ' x := fun x hx => h x (by simpa [Op.operands] using hx)
    simp only [pstep, parts_congr _ hp, parts_all _ hp]
  | makeFunc fn first captured =>
    have hc : ∀ x ∈ captured.toList, ρ x = ρ' x := fun x hx => h x (by simp [Op.operands]; exact .inr (by simpa using hx))
    cases fn <;> simp only [pstep, list_congr _ AV.strip hc, all_congr' _ hc]
  | call c =>
    obtain ⟨callee, args, ts⟩ := c
    cases callee with
    | builtin b =>
      have ha : ∀ x ∈ args.toList, ρ x = ρ' x := fun x hx => h x (by simp [Op.operands, Call.operands]; simpa using hx)
      cases b with
      | len => simp only [pstep]; split <;> first | (rename_i e _; rw [e] at ha; simp only [ha _ (List.mem_cons_self)]) | rfl
      | cap => simp only [pstep]; split <;> first | (rename_i e _; rw [e] at ha; simp only [ha _ (List.mem_cons_self)]) | rfl
      | max => simp only [pstep]; split <;> first | (rename_i x y e; rw [e] at ha; simp only [ha x (by simp), ha y (by simp)]) | rfl
      | min => simp only [pstep]; split <;> first | (rename_i x y e; rw [e] at ha; simp only [ha x (by simp), ha y (by simp)]) | rfl
      | _ => rfl
    | _ => rfl
  | _ => rfl

theorem estep_congr (o : Op) (h : ∀ x ∈ o.operands, ρ x = ρ' x) : estep P o ρ H = estep P o ρ' H := by
  cases o with
  | box t x => simp only [estep, h x (by simp [Op.operands])]
  | store t p x => simp only [estep, h p (by simp [Op.operands]), h x (by simp [Op.operands])]
  | makeSlice t l c => simp only [estep, h l (by simp [Op.operands]), h c (by simp [Op.operands])]
  | call c =>
    obtain ⟨callee, args, ts⟩ := c
    cases callee with
    | builtin b =>
      have ha : ∀ x ∈ args.toList, ρ x = ρ' x := fun x hx => h x (by simp [Op.operands, Call.operands]; simpa using hx)
      cases b <;> first
        | rfl
        | (simp only [estep]; split <;> first | (rename_i d x t t1 e _; rw [e] at ha; simp only [ha d (by simp), ha x (by simp)]) | rfl)
    | _ => rfl
  | _ => rfl

theorem opSem_congr {o : Op} {r : AV} {H' : List Blk} (h : ∀ x ∈ o.operands, ρ x = ρ' x) (hs : OpSem P G o ρ H r H') : OpSem P G o ρ' H r H' := by
  cases hs with
  | pure h1 => rw [pstep_congr o h] at h1 ⊢; exact .pure h1
  | eff he h1 => rw [estep_congr o h] at h1 ⊢; exact .eff he h1
  | call c f g cap ho hc hf hk hent hargs r H' h1 =>
    have hff : ρ f = ρ' f := h f (by simp [ho, Op.operands, Call.operands, hc])
    have ha : ∀ x ∈ c.args.toList, ρ x = ρ' x := fun x hx => h x (by
      rw [ho]; simp only [Op.operands, Call.operands]; exact Array.mem_append.2 (.inr (by simpa using hx)))
    rw [hff] at hf hk
    rw [all_congr' _ ha] at hargs
    rw [list_congr _ AV.strip ha] at h1
    exact .call c f g cap ho hc hf hk hent hargs r H' h1
  | yield c f b ho hc hf hk hargs r H' h1 =>
    have hff : ρ f = ρ' f := h f (by simp [ho, Op.operands, Call.operands, hc])
    have ha : ∀ x ∈ c.args.toList, ρ x = ρ' x := fun x hx => h x (by
      rw [ho]; simp only [Op.operands, Call.operands]; exact Array.mem_append.2 (.inr (by simpa using hx)))
    rw [hff] at hf hk
    rw [all_congr' _ ha] at hargs
    rw [list_congr _ AV.strip ha] at h1
    exact .yield c f b ho hc hf hk hargs r H' h1
end congr

section
variable {P : Program} {G : Glob} {ops : List Oper} {md : Region.Mode} {q : Operand → Bool}

theorem ev_putA {a : List AV} {d : Option Tmp} {v : AV} {x : Operand} (h : ∀ t, d = some t → x ≠ .tmp t) : ev G (putA a d v) x = ev G a x := by
  cases x with
  | tmp t =>
    cases d with
    | none => rfl
    | some e => exact getA_putA_ne v fun q => h e rfl (by rw [q])
  | _ => rfl

theorem step1_put {o : Oper} {a : List AV} {H H' : List Blk} {r v : AV} {d : Option Tmp} (h : ∀ t, d = some t → t ∉ o.looksAt ops.toArray) :
    (Step1 P G ops o (putA a d v) H r H' → Step1 P G ops o a H r H') ∧ (Step1 P G ops o a H r H' → Step1 P G ops o (putA a d v) H r H') := by
  have hop : ∀ x ∈ o.op.operands, ev G (putA a d v) x = ev G a x := fun x hx => ev_putA fun t ht hxt => h t ht (by
    subst hxt
    exact List.mem_append_left _ (List.mem_filterMap.2 ⟨.tmp t, by simpa using hx, rfl⟩))
  have hg : ∀ j want, o.guard = some (j, want) → gBool ops (putA a d v) j want = gBool ops a j want := fun j want hj => by
    unfold gBool
    cases ho : ops[j]? with
    | none => rfl
    | some o' =>
      cases hd : o'.dst with
      | none => simp [hd]
      | some e =>
        simp only [hd]
        cases d with
        | none => rfl
        | some t =>
          rw [getA_putA_ne v fun q => h t rfl (by
            subst q
            refine List.mem_append_right _ ?_
            rw [hj]
            simp [ho, hd])]
  constructor
  · intro hs
    unfold Step1 at *
    split at hs
    · exact opSem_congr hop hs
    · rename_i j want hgd
      rw [hg j want hgd] at hs
      obtain ⟨g, h1, h2⟩ := hs
      refine ⟨g, h1, ?_⟩
      rcases h2 with ⟨e, h2⟩ | h2 | ⟨v', e1, e2, h2⟩
      · exact .inl ⟨e, opSem_congr hop h2⟩
      · exact .inr (.inl h2)
      · exact .inr (.inr ⟨v', e1, e2, fun q => opSem_congr hop (h2 q)⟩)
  · intro hs
    have hop' : ∀ x ∈ o.op.operands, ev G a x = ev G (putA a d v) x := fun x hx => (hop x hx).symm
    unfold Step1 at *
    split at hs
    · exact opSem_congr hop' hs
    · rename_i j want hgd
      rw [hg j want hgd]
      obtain ⟨g, h1, h2⟩ := hs
      refine ⟨g, h1, ?_⟩
      rcases h2 with ⟨e, h2⟩ | h2 | ⟨v', e1, e2, h2⟩
      · exact .inl ⟨e, opSem_congr hop' h2⟩
      · exact .inr (.inl h2)
      · exact .inr (.inr ⟨v', e1, e2, fun q => opSem_congr hop' (h2 q)⟩)

/-- An operation that neither reads nor turns memory. -/
def heapless : Op → Bool
  | .move _ | .assign _ | .pick .. | .field .. | .index .. | .unOp .. | .convert .. | .extract .. => true
  | .binOp op _ _ y _ => (nilTest op y).isNone
  | _ => false
theorem pstep_heapless {o : Op} (h : heapless o = true) (ρ : Operand → AV) (H H' : List Blk) : pstep P o ρ H = pstep P o ρ H' := by
  cases o with
  | binOp op t x y yt =>
    simp only [heapless, Option.isNone_iff_eq_none] at h
    simp only [pstep, h]
  | _ => first | rfl | cases h
theorem opSem_heapless {o : Op} (h : heapless o = true) {ρ : Operand → AV} {H H' : List Blk} {r : AV} (hs : OpSem P G o ρ H r H') : H' = H ∧ ∀ H2, OpSem P G o ρ H2 r H2 := by
  cases hs with
  | pure h1 => exact ⟨rfl, fun H2 => by rw [pstep_heapless h ρ H H2] at h1 ⊢; exact .pure h1⟩
  | eff he h1 => exfalso; cases o <;> first | exact Bool.noConfusion he | exact Bool.noConfusion h
  | call c f g cap ho => subst ho; cases h
  | yield c f b ho => subst ho; cases h
theorem step1_heapless {o : Oper} (h : heapless o.op = true) {a : List AV} {H H' : List Blk} {r : AV} (hs : Step1 P G ops o a H r H') : H' = H ∧ ∀ H2, Step1 P G ops o a H2 r H2 := by
  unfold Step1 at *
  split at hs
  · exact opSem_heapless h hs
  · obtain ⟨g, h1, h2⟩ := hs
    rcases h2 with ⟨e, h2⟩ | ⟨e1, e2, e3⟩ | ⟨v', e1, e2, h2⟩
    · obtain ⟨q1, q2⟩ := opSem_heapless h h2
      exact ⟨q1, fun H2 => ⟨g, h1, .inl ⟨e, q2 H2⟩⟩⟩
    · exact ⟨e3, fun H2 => ⟨g, h1, .inr (.inl ⟨e1, e2, rfl⟩)⟩⟩
    · exact ⟨e2, fun H2 => ⟨g, h1, .inr (.inr ⟨v', e1, rfl, fun q => (opSem_heapless h (h2 q)).2 H2⟩)⟩⟩
/-- q: the callees that leave the own blocks as they are. -/
def effD (q : Operand → Bool) (o : Op) : Bool := isEff o || (match o with | .call { callee := .value f, .. } => !q f | _ => false)
/-- Two operations whose order does not matter. -/
def swaps (q : Operand → Bool) (oi oj : Op) : Bool := (!effD q oi && !effD q oj) || heapless oi || heapless oj

/-- An operation in a region that draws: what does not turn the own blocks by its kind, leaves them. -/
def DStep (P : Program) (G : Glob) (q : Operand → Bool) (ops : List Oper) (o : Oper) (a : List AV) (H : List Blk) (r : AV) (H' : List Blk) : Prop := Step1 P G ops o a H r H' ∧ (effD q o.op = false → H' = H)

def AAny (P : Program) (G : Glob) (q : Operand → Bool) (ops : List Oper) (md : Region.Mode) (K : List AV → List Blk → Prop) : Nat → Array Bool → List AV → List Blk → Prop
  | 0, listed, a, H => Region.ready md ops.toArray listed = [] ∧ K a H
  | fuel + 1, listed, a, H => (Region.ready md ops.toArray listed = [] → K a H) ∧
      ∀ i ∈ Region.ready md ops.toArray listed, ∃ o, ops[i]? = some o ∧ ∃ r H', DStep P G q ops o a H r H' ∧ AAny P G q ops md K fuel (listed.setIfInBounds i true) (putA a o.dst r) H'

def Closed (md : Region.Mode) (ops : List Oper) (listed : Array Bool) : Prop :=
  ∀ k o, ops[k]? = some o → listed.getD k false = true → ∀ e ∈ o.after, Region.binds md e = true → listed.getD e.on false = true
def reachB (md : Region.Mode) (ops : Array Oper) : Nat → Nat → Nat → Bool
  | 0, _, _ => false
  | n + 1, j, i =>
    match ops[j]? with
    | some o => o.after.any fun e => Region.binds md e && (e.on == i || reachB md ops n e.on i)
    | none => false

theorem reach_listed {listed : Array Bool} (hc : Closed md ops listed) : ∀ (n j i : Nat), listed.getD j false = true → reachB md ops.toArray n j i = true → listed.getD i false = true
  | 0, _, _, _, h => by cases h
  | n + 1, j, i, hj, h => by
    unfold reachB at h
    split at h
    · rename_i o ho
      obtain ⟨e, he, hb⟩ := Array.any_eq_true'.1 h
      simp only [Bool.and_eq_true, Bool.or_eq_true, beq_iff_eq] at hb
      have hl := hc j o (by simpa using ho) hj e he hb.1
      rcases hb.2 with q | q
      · rwa [q] at hl
      · exact reach_listed hc n e.on i hl q
    · cases h
theorem reach_ready {listed : Array Bool} (hc : Closed md ops listed) {n j i : Nat} (hj : j ∈ Region.ready md ops.toArray listed) (h : reachB md ops.toArray n j i = true) : listed.getD i false = true := by
  cases n with
  | zero => cases h
  | succ n =>
    unfold reachB at h
    obtain ⟨_, o, ho, hall⟩ := mem_ready.1 hj
    rw [ho] at h
    obtain ⟨e, he, hb⟩ := Array.any_eq_true'.1 h
    simp only [Bool.and_eq_true, Bool.or_eq_true, beq_iff_eq] at hb
    have hl := hall e he hb.1
    rcases hb.2 with q | q
    · rwa [q] at hl
    · exact reach_listed hc n e.on i hl q
theorem closed_add {listed : Array Bool} (hc : Closed md ops listed) {j : Nat} (hj : j ∈ Region.ready md ops.toArray listed) : Closed md ops (listed.setIfInBounds j true) := by
  intro k o ho hk e he hb
  obtain ⟨_, oj, hoj, hall⟩ := mem_ready.1 hj
  by_cases hkj : j = k
  · subst hkj
    have : ops[j]? = some oj := by simpa using hoj
    rw [ho] at this; injection this with this; subst this
    exact getD_set_true (hall e he hb)
  · rw [getD_set_ne false hkj] at hk
    exact getD_set_true (hc k o ho hk e he hb)
theorem not_listed {listed : Array Bool} {i : Nat} (h : listed.getD i true = false) : listed.getD i false ≠ true := by
  rcases Nat.lt_or_ge i listed.size with h' | h'
  · simp [h'] at h ⊢; exact h
  · simp [Array.getElem?_eq_none h'] at h

theorem aAny_first {K : List AV → List Blk → Prop} {i : Nat} {oi : Oper} {r : AV} {N : Nat} (hi : ops[i]? = some oi) :
    ∀ (fuel : Nat) (listed : Array Bool) (a : List AV) (H H' : List Blk), Closed md ops listed →
      (∀ j oj, ops[j]? = some oj → j ≠ i → listed.getD j true = false → reachB md ops.toArray N j i = true ∨ (swaps q oi.op oj.op = true ∧ oi.apart ops.toArray oj = true)) →
      i ∈ Region.ready md ops.toArray listed → DStep P G q ops oi a H r H' → AAny P G q ops md K fuel (listed.setIfInBounds i true) (putA a oi.dst r) H' → AAny P G q ops md K (fuel + 1) listed a H := by
  intro fuel
  induction fuel with
  | zero =>
    intro listed a H H' hc hfree hr hs hA
    refine ⟨fun h => (by rw [h] at hr; cases hr), fun j hj => ?_⟩
    by_cases hji : j = i
    · subst hji; exact ⟨oi, hi, r, H', hs, hA⟩
    · have := ready_mono hj hji
      rw [hA.1] at this
      cases this
  | succ fuel ih =>
    intro listed a H H' hc hfree hr hs hA
    refine ⟨fun h => (by rw [h] at hr; cases hr), fun j hj => ?_⟩
    by_cases hji : j = i
    · subst hji; exact ⟨oi, hi, r, H', hs, hA⟩
    · obtain ⟨hjun, oj', hoj', hall⟩ := mem_ready.1 hj
      have hoj : ops[j]? = some oj' := by simpa using hoj'
      rcases hfree j oj' hoj hji hjun with hre | ⟨hsw, hap⟩
      · exact absurd (reach_ready hc hj hre) (not_listed (mem_ready.1 hr).1)
      · obtain ⟨oj, hoj2, rj, Hj, hsj, hAj⟩ := hA.2 j (ready_mono hj hji)
        rw [hoj] at hoj2; injection hoj2 with hoj2; subst hoj2
        obtain ⟨a1, a2, a3⟩ := Oper.apart_spec hap
        have key : ∃ Hm, DStep P G q ops oj' a H rj Hm ∧ DStep P G q ops oi (putA a oj'.dst rj) Hm r Hj := by
          simp only [swaps, Bool.or_eq_true, Bool.and_eq_true, Bool.not_eq_true'] at hsw
          rcases hsw with (⟨p1, p2⟩ | hp) | hp
          · have e1 : H' = H := hs.2 p1
            subst e1
            have e2 : Hj = H' := hsj.2 p2
            subst e2
            exact ⟨Hj, ⟨(step1_put a1).1 hsj.1, fun _ => rfl⟩, ⟨(step1_put a3).2 hs.1, fun _ => rfl⟩⟩
          · obtain ⟨e1, q⟩ := step1_heapless hp hs.1
            subst e1
            exact ⟨Hj, ⟨(step1_put a1).1 hsj.1, hsj.2⟩, ⟨(step1_put a3).2 (q Hj), fun _ => rfl⟩⟩
          · obtain ⟨e1, q⟩ := step1_heapless hp hsj.1
            subst e1
            exact ⟨H, ⟨(step1_put a1).1 (q H), fun _ => rfl⟩, ⟨(step1_put a3).2 hs.1, hs.2⟩⟩
        obtain ⟨Hm, hsj', hsi'⟩ := key
        refine ⟨oj', hoj, rj, Hm, hsj', ?_⟩
        refine ih (listed.setIfInBounds j true) _ _ _ (closed_add hc hj) (fun k ok hk hki hun => ?_) (ready_mono hr (Ne.symm hji)) hsi' ?_
        · refine hfree k ok hk hki ?_
          by_cases hjk : j = k
          · subst hjk; exact hjun
          · rw [getD_set_ne true hjk] at hun; exact hun
        · rw [Array.setIfInBounds_comm _ _ hji, ← putA_comm a r rj a2]
          exact hAj

/-- Whether the order of the text serves every order (closed: the kernel reckons it). -/
def lexE (q : Operand → Bool) (md : Region.Mode) (ops : Array Oper) : Nat → Nat → Array Bool → Bool
  | 0, _, listed => (Region.ready md ops listed).isEmpty
  | n + 1, k, listed => (Region.ready md ops listed).contains k &&
      ((List.range ops.size).all fun j => j == k || listed.getD j true || reachB md ops ops.size j k ||
        (match ops[k]?, ops[j]? with | some ok, some oj => swaps q ok.op oj.op && ok.apart ops oj | _, _ => false)) &&
      lexE q md ops n (k + 1) (listed.setIfInBounds k true)
def orderOk (q : Operand → Bool) (ops : List Oper) : Bool := lexE q .any ops.toArray ops.length 0 (Array.replicate ops.length false)

/-- The operations in the order of the text, in a region that draws. -/
def ChainD (P : Program) (G : Glob) (q : Operand → Bool) (ops : List Oper) (K : List AV → List Blk → Prop) : List Oper → List AV → List Blk → Prop
  | [], a, H => K a H
  | o :: rest, a, H => ∃ r H', DStep P G q ops o a H r H' ∧ ChainD P G q ops K rest (putA a o.dst r) H'

theorem chainD_any {K : List AV → List Blk → Prop} : ∀ (l : List Oper) (k : Nat) (listed : Array Bool) (a : List AV) (H : List Blk), (∀ j, l[j]? = ops[k + j]?) → lexE q md ops.toArray l.length k listed = true → Closed md ops listed →
    ChainD P G q ops K l a H → AAny P G q ops md K l.length listed a H
  | [], k, listed, a, H, _, hB, _, h => ⟨by simpa [lexE] using hB, h⟩
  | o :: l, k, listed, a, H, hl, hB, hc, h => by
    have h0 : ops[k]? = some o := by simpa using (hl 0).symm
    simp only [List.length_cons, lexE, Bool.and_eq_true, List.all_eq_true, List.mem_range] at hB
    obtain ⟨⟨hr, hf⟩, hB'⟩ := hB
    have hr' : k ∈ Region.ready md ops.toArray listed := by simpa using hr
    obtain ⟨r, H', hs, hK⟩ := h
    refine aAny_first (N := ops.toArray.size) h0 l.length listed a H H' hc (fun j oj hj hji hun => ?_) hr' hs ?_
    · have hlt : j < ops.toArray.size := by simpa using (List.getElem?_eq_some_iff.1 hj).1
      have := hf j hlt
      simp only [Bool.or_eq_true, beq_iff_eq, hji, false_or, hun, Bool.false_eq_true, List.getElem?_toArray, h0, hj, Bool.and_eq_true, Bool.not_eq_true'] at this
      rcases this with q | q
      · exact .inl q
      · exact .inr q
    · exact chainD_any l (k + 1) _ _ _ (fun j => by have := hl (j + 1); simpa [Nat.add_assoc, Nat.add_comm 1 j] using this) hB' (closed_add hc hr') hK

theorem aAny_wp {n0 : Nat} {S0 : St} {H0 : List Blk} {K : List AV → List Blk → Prop} {ds : List Deferred} {Q : Exit → Act → World → Prop} {ro : Option Nat} (hQ : ∀ act w, Ends G n0 S0 H0 ds K act w → Q .normal act w) :
    ∀ (fuel : Nat) (listed : Array Bool) (a : List AV) (H : List Blk) (S : St) (act : Act), AAny P G q ops md K fuel listed a H → S.Ok H → Globs G S.M → n0 ≤ H.length → Ext n0 S0 H0 S H → RelL (S.env H) a act.tmps.toList → Marks S0 ds S H act.defers →
      wpAnyIn (fen ro) 0 P md ops.toArray Q fuel listed act S.w
  | 0, listed, a, H, S, act, hA, hok, hG, hn, hext, ha, hd => ⟨hA.1, hQ _ _ ⟨a, H, S, rfl, hA.2, hok, hext, ha, hd⟩⟩
  | fuel + 1, listed, a, H, S, act, hA, hok, hG, hn, hext, ha, hd => by
    refine ⟨fun h0 => hQ _ _ ⟨a, H, S, rfl, hA.1 h0, hok, hext, ha, hd⟩, fun i hi => ?_⟩
    obtain ⟨o, ho, r, H', hs, hA'⟩ := hA.2 i hi
    have ho' : ops.toArray[i]? = some o := by simpa using ho
    unfold wpOpIn
    simp only [ho']
    exact step1_wp hs.1 hok hG ha fun v S' h1 h2 h3 =>
      aAny_wp hQ fuel _ _ H' S' _ hA' h1 (hG.mono h2.M) (Nat.le_trans hn (h2.len (Nat.le_refl _))) (hext.trans (h2.less hn (Nat.le_refl _))) (relL_put (RelL.mono (h2.le (Nat.le_refl _)) _ _ ha) _ h3) (by
        have e : (act.put o.dst v).defers = act.defers := by cases o.dst <;> rfl
        rw [e]; exact hd.mono h2)
end
end Go.V
