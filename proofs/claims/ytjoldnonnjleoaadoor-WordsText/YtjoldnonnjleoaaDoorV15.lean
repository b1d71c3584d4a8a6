/- The library V, part 15: regions. -/
import Derived.Test.YtjoldnonnjleoaaDoorV14
set_option linter.unusedVariables false
set_option linter.unusedSimpArgs false
namespace Go.V
open Go Go.RowKit

/-- Whether a guarded operation is carried out. -/
def gOf (v : AV) (want : Bool) : Option Bool :=
  match v with
  | .bool b => some (b == want)
  | .opt g (.bool b) => some (g && (b == want))
  | .tup [] => some false
  | _ => none
def gBool (ops : List Oper) (a : List AV) (j : Nat) (want : Bool) : Option Bool :=
  match ops[j]? with
  | some o =>
    match o.dst with
    | some d => gOf (getA a d) want
    | none => some false
  | none => some false

/-- One operation, its guard with it. -/
def Step1 (P : Program) (G : Glob) (ops : List Oper) (o : Oper) (a : List AV) (H : List Blk) (r : AV) (H' : List Blk) : Prop :=
  match o.guard with
  | none => OpSem P G o.op (ev G a) H r H'
  | some (j, want) => ∃ g, gBool ops a j want = some g ∧
      ((g = true ∧ OpSem P G o.op (ev G a) H r H') ∨ (g = false ∧ r = .tup [] ∧ H' = H) ∨ (∃ v, r = .opt g v ∧ H' = H ∧ (g = true → OpSem P G o.op (ev G a) H v H)))

theorem gBool_wanted {ops : List Oper} {a : List AV} {E : Env} {act : Act} (ha : RelL E a act.tmps.toList) {o : Oper} {j : Nat} {want g : Bool} (hg : o.guard = some (j, want)) (h : gBool ops a j want = some g) :
    Region.wanted o (yielded ops.toArray act.tmps) = g := by
  unfold Region.wanted
  rw [hg]
  unfold gBool at h
  simp only [yielded, List.getElem?_toArray]
  cases ho : ops[j]? with
  | none =>
    rw [ho] at h; cases h; rfl
  | some o' =>
    rw [ho] at h
    simp only at h
    cases hd : o'.dst with
    | none =>
      rw [hd] at h; injection h with h; subst h
      simp [hd]
    | some d =>
      rw [hd] at h
      simp only [gOf] at h
      simp only [Option.bind_some, hd]
      have hr := rel_getA ha d
      have hl := ha.length
      simp only [Array.length_toList] at hl
      have hget : ∀ v, act.tmps.getD d undef = v → v ≠ undef → act.tmps[d]? = some v := by
        intro v hv hne
        rw [Array.getD_eq_getD_getElem?] at hv
        cases hq : act.tmps[d]? with
        | none => rw [hq] at hv; exact absurd hv.symm hne
        | some u => rw [hq] at hv; simp at hv; rw [hv]
      have hund : act.tmps.getD d undef = undef → act.tmps[d]? = none ∨ act.tmps[d]? = some undef := by
        intro hv
        rw [Array.getD_eq_getD_getElem?] at hv
        cases hq : act.tmps[d]? with
        | none => exact .inl rfl
        | some u => rw [hq] at hv; simp at hv; subst hv; exact .inr rfl
      split at h
      · rename_i b hb
        rw [hb] at hr
        have hv : act.tmps.getD d undef = .bool b := by simpa [Rel] using hr
        injection h with h; subst h
        rw [hget _ hv (by simp [undef])]
        cases b <;> cases want <;> rfl
      · rename_i g' b hb
        rw [hb] at hr
        simp only [Rel] at hr
        injection h with h; subst h
        cases g' with
        | true =>
          have hv : act.tmps.getD d undef = .bool b := hr.1 rfl
          rw [hget _ hv (by simp [undef])]
          cases b <;> cases want <;> rfl
        | false =>
          rcases hund (hr.2 rfl) with q | q <;> rw [q] <;> rfl
      · rename_i hb
        rw [hb] at hr
        simp only [Rel] at hr
        obtain ⟨vs, hv, hvs⟩ := hr
        simp only [RelL] at hvs
        subst hvs
        injection h with h; subst h
        rcases hund (by rw [hv]; rfl) with q | q <;> rw [q] <;> rfl
      · cases h

theorem step1_wp {P : Program} {G : Glob} {S : St} {ops : List Oper} {H H' : List Blk} {r : AV} {a : List AV} {act : Act} {o : Oper} (h : Step1 P G ops o a H r H') (hok : S.Ok H) (hG : Globs G S.M) (ha : RelL (S.env H) a act.tmps.toList)
    {K : Act → World → Prop} {Q : Exit → Act → World → Prop} (hK : ∀ v S', S'.Ok H' → Ext H.length S H S' H' → Rel (S'.env H') r v → K (act.put o.dst v) S'.w) :
    if Region.wanted o (yielded ops.toArray act.tmps) = true then o.wp P act S.w K Q ∨ (o.asks P act S.w ∧ LetsOut Q) else K (act.put o.dst undef) S.w := by
  unfold Step1 at h
  split at h
  · rename_i hg
    have hw : Region.wanted o (yielded ops.toArray act.tmps) = true := by simp [Region.wanted, hg]
    rw [if_pos hw]
    exact .inl (opSem_wp h hok hG ha hK)
  · rename_i j want hg
    obtain ⟨g, hgb, hcase⟩ := h
    have hw := gBool_wanted ha hg hgb
    rw [hw]
    rcases hcase with ⟨rfl, h⟩ | ⟨rfl, rfl, rfl⟩ | ⟨v, rfl, rfl, h⟩
    · exact .inl (opSem_wp h hok hG ha hK)
    · exact hK undef S hok (Ext.refl _ _ _) (by simp [Rel, RelL, undef])
    · cases g with
      | true =>
        refine .inl (opSem_wp (h rfl) hok hG ha fun u S' h1 h2 h3 => hK u S' h1 h2 ?_)
        simp only [Rel]
        exact ⟨fun _ => h3, fun q => by cases q⟩
      | false =>
        refine hK undef S hok (Ext.refl _ _ _) ?_
        simp only [Rel]
        exact ⟨fun q => (by cases q), fun _ => trivial⟩

/-- The operations in the order of the text. -/
def Chain (P : Program) (G : Glob) (ops : List Oper) (K : List AV → List Blk → Prop) : List Oper → List AV → List Blk → Prop
  | [], a, H => K a H
  | o :: rest, a, H => ∃ r H', Step1 P G ops o a H r H' ∧ Chain P G ops K rest (putA a o.dst r) H'

/-- What the state is in which a piece of code ends. -/
def Ends (G : Glob) (n0 : Nat) (S : St) (H : List Blk) (Q : List AV → List Blk → Prop) (act : Act) (w : World) : Prop :=
  ∃ a' H' S', S'.w = w ∧ Q a' H' ∧ S'.Ok H' ∧ Ext n0 S H S' H' ∧ RelL (S'.env H') a' act.tmps.toList ∧ act.defers = []

theorem chain_wpOps {P : Program} {G : Glob} {n0 : Nat} {S0 : St} {H0 : List Blk} {ops : List Oper} {K : List AV → List Blk → Prop} {Q : Exit → Act → World → Prop}
    (hQ : ∀ act w, Ends G n0 S0 H0 K act w → Q .normal act w) :
    ∀ (l : List Oper) (k : Nat) (a : List AV) (H : List Blk) (S : St) (act : Act), (∀ j, l[j]? = ops[k + j]?) → Chain P G ops K l a H → S.Ok H → Globs G S.M → n0 ≤ H.length → Ext n0 S0 H0 S H → RelL (S.env H) a act.tmps.toList → act.defers = [] →
      wpOps P ops.toArray Q (List.range' k l.length) act S.w
  | [], k, a, H, S, act, hl, hc, hok, hG, hn, hext, ha, hd => hQ _ _ ⟨a, H, S, rfl, hc, hok, hext, ha, hd⟩
  | o :: l, k, a, H, S, act, hl, hc, hok, hG, hn, hext, ha, hd => by
    obtain ⟨r, H', hs, hc'⟩ := hc
    have h0 : ops.toArray[k]? = some o := by have := hl 0; simpa using this.symm
    have hs1 := step1_wp (Q := Q) (K := wpOps P ops.toArray Q (List.range' (k + 1) l.length)) hs hok hG ha fun v S' h1 h2 h3 => by
      have hlen : H.length ≤ H'.length := h2.len (Nat.le_refl _)
      exact chain_wpOps hQ l (k + 1) _ H' S' _ (fun j => by have := hl (j + 1); simpa [Nat.add_assoc, Nat.add_comm 1 j] using this) hc' h1 (hG.mono h2.M) (by omega) (hext.trans (h2.less hn (Nat.le_refl _))) (relL_put (RelL.mono (h2.le (Nat.le_refl _)) _ _ ha) _ h3) (by cases o.dst <;> simpa [Act.put] using hd)
    simp only [List.length_cons, List.range'_succ, wpOps, h0]
    exact hs1
end Go.V
