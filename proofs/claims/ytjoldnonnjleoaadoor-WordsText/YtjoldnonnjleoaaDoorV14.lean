/- The library V, part 14: operands; one operation of a region, in the order of the text. -/
import Derived.Test.YtjoldnonnjleoaaDoorV13
set_option linter.unusedVariables false
set_option linter.unusedSimpArgs false
namespace Go.V
open Go Go.RowKit

/-- What the package-level variables hold: number of the variable, its cells. -/
abbrev Glob := Nat → Option (List AV)
def Env0 (M : Mem) : Env := ⟨M, fun _ => none, fun _ => none, fun _ => none⟩
def Globs (G : Glob) (M : Mem) : Prop := ∀ g cs, G g = some cs → ∃ (vs : List Value) (t : TypeId) (fr : Nat × Nat), M g = some (.cells vs.toArray t fr) ∧ RelL (Env0 M) cs vs ∧ ∀ u ∈ vs, u.oneCell' = true
theorem Globs.relC {G : Glob} {M : Mem} (h : Globs G M) {g : Nat} {cs : List AV} (hg : G g = some cs) : RelC (Env0 M) cs g 0 := by
  obtain ⟨vs, t, fr, h1, h2, h3⟩ := h g cs hg
  refine RelC.mk fun j a hj => ?_
  obtain ⟨v, hv, hr⟩ := h2.get hj
  exact ⟨v, by simp [mcell, Env0, h1, hv], h3 v (List.mem_of_getElem? hv), hr⟩
theorem env0_le (M M' : Mem) (h : ∀ k o, M k = some o → M' k = some o) (E : Env) (hE : E.M = M') : (Env0 M).le E :=
  ⟨(by rw [hE]; exact h), fun b s cur q => (by cases q), fun b g q => (by cases q)⟩
theorem Globs.mono {G : Glob} {M M' : Mem} (hg : Globs G M) (h : ∀ k o, M k = some o → M' k = some o) : Globs G M' :=
  fun g cs hc => let ⟨vs, t, fr, h1, h2, h3⟩ := hg g cs hc; ⟨vs, t, fr, h _ _ h1, RelL.mono (env0_le M M' h _ rfl) _ _ h2, h3⟩

def getA (a : List AV) (t : Nat) : AV := a.getD t (.tup [])
def putA (a : List AV) (d : Option Tmp) (v : AV) : List AV :=
  match d with
  | some d => a.set d v
  | none => a
def ev (G : Glob) (a : List AV) : Operand → AV
  | .tmp t => getA a t
  | .const v => ofVal v
  | .global g => match G g with | some cs => .iptr cs 0 | none => .top
  | .func f => .fn f []

theorem length_putA (a : List AV) (d : Option Tmp) (v : AV) : (putA a d v).length = a.length := by cases d <;> simp [putA]
theorem getA_putA_same {a : List AV} {t : Nat} (v : AV) (h : t < a.length) : getA (putA a (some t) v) t = v := by
  simp [getA, putA, List.getD_eq_getElem?_getD, h]
theorem getA_putA_ne {a : List AV} {t d : Nat} (v : AV) (h : d ≠ t) : getA (putA a (some d) v) t = getA a t := by
  simp [getA, putA, List.getD_eq_getElem?_getD, List.getElem?_set_ne h]
theorem getA_putA_none (a : List AV) (t : Nat) (v : AV) : getA (putA a none v) t = getA a t := rfl
theorem putA_comm (a : List AV) {x y : Option Tmp} (v u : AV) (h : ∀ d, x = some d → y ≠ some d) : putA (putA a x v) y u = putA (putA a y u) x v := by
  cases x with
  | none => rfl
  | some d =>
    cases y with
    | none => rfl
    | some e =>
      have hne : d ≠ e := fun q => h d rfl (by rw [q])
      simp only [putA]
      exact List.set_comm _ _ hne

theorem rel_getA {E : Env} {a : List AV} {ts : Array Value} (h : RelL E a ts.toList) (t : Nat) : Rel E (getA a t) (ts.getD t undef) := by
  unfold getA
  rw [List.getD_eq_getElem?_getD]
  cases ha : a[t]? with
  | none =>
    have : ts.size ≤ t := by
      have h1 := List.getElem?_eq_none_iff.1 ha
      have := h.length
      simp at this
      omega
    rw [Array.getD_eq_getD_getElem?, Array.getElem?_eq_none this]
    simp [Rel, RelL, undef]
  | some v =>
    obtain ⟨u, hu, hr⟩ := h.get ha
    have : ts[t]? = some u := by simpa using hu
    rw [Array.getD_eq_getD_getElem?, this]
    exact hr
theorem rel_ev {G : Glob} {S : St} {H : List Blk} {a : List AV} {act : Act} (hG : Globs G S.M) (h : RelL (S.env H) a act.tmps.toList) (x : Operand) : Rel (S.env H) (ev G a x) (act.eval x) := by
  cases x with
  | tmp t => exact rel_getA h t
  | const v => exact rel_ofVal _ v
  | global g =>
    simp only [ev, Act.eval]
    split
    · rename_i cs hg
      simp only [Rel]
      exact ⟨g, 0, rfl, (hG.relC hg).mono (env0_le S.M S.M (fun _ _ h => h) _ rfl)⟩
    · simp [Rel]
  | func f => simp [ev, Act.eval, Rel, RelL]
theorem relL_put {E : Env} {a : List AV} {act : Act} (h : RelL E a act.tmps.toList) (d : Option Tmp) {r : AV} {v : Value} (hr : Rel E r v) : RelL E (putA a d r) (act.put d v).tmps.toList := by
  cases d with
  | none => exact h
  | some d => simpa [putA, Act.put] using h.set d hr

section
variable {P : Program} {S : St} {H : List Blk}

theorem estep_ok (hok : S.Ok H) {ρ : Operand → AV} {ρv : Operand → Value} (hρ : ∀ x, Rel (S.env H) (ρ x) (ρv x)) (o : Oper) (h : (estep P o.op ρ H).1 = true) :
    Turns P S H (execOp ρv o) (estep P o.op ρ H).2.1 (estep P o.op ρ H).2.2 := by
  obtain ⟨dst, op, type, pos, after, guard⟩ := o
  simp only at h ⊢
  have st : ∀ x, (ρ x).ok = true → Rel (S.env H) (ρ x).strip (ρv x) := fun x hx => (hρ x).strip hx
  cases op with
  | alloc t => exact eAlloc_ok hok h
  | box t x =>
    simp only [estep, Bool.and_eq_true] at h ⊢
    exact eBox_ok hok (st x h.1) h.2
  | store t p x =>
    simp only [estep, Bool.and_eq_true] at h ⊢
    exact eStore_ok hok (st p h.1) (st x h.2.1) h.2.2
  | makeSlice t l c =>
    simp only [estep, Bool.and_eq_true] at h ⊢
    exact eMake_ok hok (st l h.1) (st c h.2.1) h.2.2
  | call c =>
    obtain ⟨callee, args, argTypes⟩ := c
    cases callee with
    | builtin b =>
      cases b with
      | append =>
        simp only [estep] at h ⊢
        split at h
        · rename_i d x t t1 ha ht
          simp only [Bool.and_eq_true] at h
          have := eAppend_ok (P := P) (ty := type) hok (st d h.1) (st x h.2.1) h.2.2
          have hA : args.map ρv = #[ρv d, ρv x] := by apply Array.ext'; simp [ha]
          have hT : argTypes = #[t, t1] := by apply Array.ext'; simp [ht]
          obtain ⟨nx, v, S', h1, h2⟩ := this
          refine ⟨nx, v, S', ?_, h2⟩
          simpa [execOp, resolve, invoke, builtin, hA, hT] using h1
        · cases h
      | _ => cases h
    | _ => cases h
  | _ => cases h
end

/-- A call of function f: what it comes to. -/
def ACalls (P : Program) (G : Glob) (f : FuncId) (args : List AV) (H : List Blk) (r : AV) (H' : List Blk) : Prop :=
  ∀ (S : St) (vals : List Value), S.Ok H → Globs G S.M → RelL (S.env H) args vals →
    Calls P f vals.toArray S.w fun e w' => ∃ v S', e = .returned v ∧ S'.w = w' ∧ S'.Ok H' ∧ Ext H.length S H S' H' ∧ Rel (S'.env H') r v

/-- The function has a body (closed: the kernel reckons it). -/
def enters (P : Program) (f : FuncId) : Bool :=
  match P.funcs[f]? with
  | some fn => fn.name != "runtime.NumGoroutine" && fn.body.isSome
  | none => false

/-- One operation, its guard apart. -/
inductive OpSem (P : Program) (G : Glob) (o : Op) (ρ : Operand → AV) (H : List Blk) : AV → List Blk → Prop where
  | pure (h : (pstep P o ρ H).1 = true) : OpSem P G o ρ H (pstep P o ρ H).2 H
  | eff (he : isEff o = true) (h : (estep P o ρ H).1 = true) : OpSem P G o ρ H (estep P o ρ H).2.1 (estep P o ρ H).2.2
  | call (c : Call) (f : Operand) (g : FuncId) (cap : List AV) (ho : o = .call c) (hc : c.callee = .value f) (hf : (ρ f).strip = .fn g cap) (hk : (ρ f).ok = true) (hent : enters P g = true)
      (hargs : (c.args.toList.all fun x => (ρ x).ok) = true) (r : AV) (H' : List Blk) (h : ACalls P G g ((c.args.toList.map fun x => (ρ x).strip) ++ cap) H r H') : OpSem P G o ρ H r H'

theorem opSem_wp {P : Program} {G : Glob} {S : St} {H H' : List Blk} {r : AV} {a : List AV} {act : Act} {o : Oper} (h : OpSem P G o.op (ev G a) H r H') (hok : S.Ok H) (hG : Globs G S.M) (ha : RelL (S.env H) a act.tmps.toList)
    {K : Act → World → Prop} {Q : Exit → Act → World → Prop} (hK : ∀ v S', S'.Ok H' → Ext H.length S H S' H' → Rel (S'.env H') r v → K (act.put o.dst v) S'.w) : o.wp P act S.w K Q := by
  have hρ := fun x => rel_ev (act := act) hG ha x
  cases h with
  | pure h =>
    obtain ⟨v, S', h1, h2, h3, h4⟩ := pstep_ok hok hρ (fun v => rfl) o h
    unfold Oper.wp
    rw [h1]
    exact hK v S' h2 h3 h4
  | eff he h =>
    obtain ⟨nx, v, S', h1, hnx, h2, h3, h4⟩ := estep_ok hok hρ o h
    unfold Oper.wp
    rw [h1]
    rcases hnx with rfl | ⟨rfl, rfl⟩
    · exact hK v S' h2 h3 h4
    · exact hK undef S' h2 h3 h4
  | call c f g cap ho hc hf hk hent hargs r H' h =>
    have hfv := (hρ f).strip hk
    rw [hf] at hfv
    simp only [Rel] at hfv
    obtain ⟨caps, hfe, hcap⟩ := hfv
    have hrel : RelL (S.env H) ((c.args.toList.map fun x => (ev G a x).strip) ++ cap) (c.args.toList.map act.eval ++ caps) := by
      refine RelL.append (RelL.mk (by simp) fun i x v hx hv => ?_) hcap
      rw [List.getElem?_map] at hx hv
      cases hz : c.args.toList[i]? with
      | none => rw [hz] at hx; cases hx
      | some z =>
        rw [hz] at hx hv
        injection hx with hx; injection hv with hv; subst hx; subst hv
        exact (hρ z).strip (List.all_eq_true.1 hargs z (List.mem_of_getElem? hz))
    have hcall := h S _ hok hG hrel
    unfold enters at hent
    split at hent
    · rename_i fn hfn
      simp only [Bool.and_eq_true, bne_iff_ne, ne_eq, Option.isSome_iff_exists] at hent
      obtain ⟨hname, body, hbody⟩ := hent
      have hn : (fn.name == "runtime.NumGoroutine") = false := by simpa using hname
      have hrun : (execOp act.eval o).run P S.w = .ok (.enter g (c.args.toList.map act.eval ++ caps).toArray) S.w := by
        have harr : c.args.map act.eval ++ caps.toArray = (c.args.toList.map act.eval ++ caps).toArray := by apply Array.ext'; simp
        simp only [execOp, ho, resolve, hc, hfe, Deferred.ofValue]
        simp [invoke, callFunc, hfn, hn, hbody]
        rw [← harr]
        simp
        exact hname
      unfold Oper.wp
      rw [hrun]
      simp only [Oper.upon]
      exact hcall.mono fun e w' hh => by
        obtain ⟨v, S', rfl, rfl, h2, h3, h4⟩ := hh
        exact hK v S' h2 h3 h4
    · cases hent
end Go.V
