/- The library V, part 9: all pure operations; the operations that turn the own blocks. -/
import Derived.Test.YtjoldnonnjleoaaDoorV8
set_option linter.unusedVariables false
set_option linter.unusedSimpArgs false
namespace Go.V
open Go Go.RowKit

section
variable {P : Program} {S : St} {H : List Blk}

/-- What an operation that yields a value comes to. -/
def Yields (P : Program) (S : St) (H : List Blk) (x : Sem Next) (r : AV) : Prop :=
  ∃ v S', x.run P S.w = .ok (.value v) S'.w ∧ S'.Ok H ∧ Ext H.length S H S' H ∧ Rel (S'.env H) r v

theorem Yields.same (hok : S.Ok H) {x : Sem Value} {r : AV} {v : Value} (h : x.run P S.w = .ok v S.w) (hr : Rel (S.env H) r v) : Yields P S H (do pure (.value (← x))) r :=
  ⟨v, S, by simp [h], hok, Ext.refl _ _ _, hr⟩
theorem Yields.of (hok : S.Ok H) {x : Sem Value} {r : AV} (h : ∃ v, x.run P S.w = .ok v S.w ∧ Rel (S.env H) r v) : Yields P S H (do pure (.value (← x))) r :=
  let ⟨_, h1, h2⟩ := h
  Yields.same hok h1 h2

theorem relO_map {E : Env} {ρ : Operand → AV} {ρv : Operand → Value} (hρ : ∀ x, Rel E (ρ x) (ρv x)) (x : Option Operand) (h : (x.all fun y => (ρ y).ok) = true) : RelO E (x.map fun y => (ρ y).strip) (x.map ρv) := by
  cases x with
  | none => rfl
  | some y => exact ⟨_, rfl, (hρ y).strip (by simpa using h)⟩

theorem pstep_ok (hok : S.Ok H) {ρ : Operand → AV} {ρv : Operand → Value} (hρ : ∀ x, Rel (S.env H) (ρ x) (ρv x)) (hconst : ∀ v, ρv (.const v) = v) (o : Oper) (h : (pstep P o.op ρ H).1 = true) :
    Yields P S H (execOp ρv o) (pstep P o.op ρ H).2 := by
  obtain ⟨dst, op, type, pos, after, guard⟩ := o
  simp only at h ⊢
  have st : ∀ x, (ρ x).ok = true → Rel (S.env H) (ρ x).strip (ρv x) := fun x hx => (hρ x).strip hx
  cases op with
  | move x => exact ⟨ρv x, S, rfl, hok, Ext.refl _ _ _, st x h⟩
  | assign x => exact ⟨ρv x, S, rfl, hok, Ext.refl _ _ _, st x h⟩
  | pick c x y =>
    simp only [pstep] at h ⊢
    split at h
    · rename_i b hb
      simp only [Bool.and_eq_true] at h
      have hc := st c h.1
      rw [hb] at hc
      have hcv : ρv c = .bool b := by simpa [Rel] using hc
      refine ⟨if b = true then ρv x else ρv y, S, ?_, hok, Ext.refl _ _ _, ?_⟩
      · simp [execOp, hcv, asBool]
      · refine Rel.ite (fun hb' => ?_) fun hb' => ?_
        · subst hb'; exact st x (by simpa using h.2)
        · subst hb'; exact st y (by simpa using h.2)
    · cases h
  | load t p =>
    simp only [pstep, Bool.and_eq_true] at h ⊢
    exact Yields.of hok (pLoad_ok hok (st p h.1) h.2)
  | nilCheck x =>
    simp only [pstep] at h ⊢
    split at h
    · rename_i b i o hh hx
      simp only [Bool.and_eq_true] at h
      have hr := st x h.1
      rw [hx] at hr
      obtain ⟨s, g, k, hs, hg, hv⟩ := rel_ptr hr h.2
      exact ⟨ρv x, S, by simp [execOp, hv], hok, Ext.refl _ _ _, hr⟩
    · rename_i cs o hx
      have hr := st x h
      rw [hx] at hr
      have hr' := hr
      simp only [Rel] at hr'
      obtain ⟨g, off, hv, _⟩ := hr'
      exact ⟨ρv x, S, by simp [execOp, hv], hok, Ext.refl _ _ _, hr⟩
    · rename_i f c hx
      have hr := st x h
      rw [hx] at hr
      have hr' := hr
      simp only [Rel] at hr'
      obtain ⟨vs, hv, _⟩ := hr'
      exact ⟨ρv x, S, by simp [execOp, hv], hok, Ext.refl _ _ _, hr⟩
    · cases h
  | fieldAddr s x f =>
    simp only [pstep, Bool.and_eq_true] at h ⊢
    exact Yields.of hok (pFieldAddr_ok hok (st x h.1) h.2)
  | field s x f =>
    simp only [pstep, Bool.and_eq_true] at h ⊢
    exact Yields.of hok (pField_ok (st x h.1) h.2)
  | indexAddr t x i =>
    simp only [pstep, Bool.and_eq_true] at h ⊢
    exact Yields.of hok (pIndexAddr_ok hok (st x h.1) (st i h.2.1) h.2.2)
  | index t x i =>
    simp only [pstep, Bool.and_eq_true] at h ⊢
    exact Yields.of hok (pIndex_ok (st x h.1) (st i h.2.1) h.2.2)
  | binOp op t x y yt =>
    simp only [pstep] at h ⊢
    split at h
    · rename_i neg v hn
      simp only [Bool.and_eq_true] at h
      have hy := (nilTest_some hn).1
      have := pNil_ok op t x y hn (st x h.1) h.2
      have hv : ρv y = v := by rw [hy]; exact hconst v
      rw [← hv] at this
      rw [← hv]
      exact Yields.of hok this
    · simp only [Bool.and_eq_true] at h
      exact Yields.of hok (pBin_ok op t x y (st x h.1) (st y h.2.1) h.2.2)
  | unOp op t x =>
    simp only [pstep, Bool.and_eq_true] at h ⊢
    exact Yields.of hok (pUn_ok (st x h.1) h.2)
  | convert src dst x =>
    simp only [pstep, Bool.and_eq_true] at h ⊢
    exact Yields.of hok (pConvert_ok (st x h.1) h.2)
  | extract x i =>
    simp only [pstep] at h ⊢
    split at h
    · rename_i vs hx
      split at h
      · rename_i v hv
        have hr := st x h
        rw [hx] at hr
        simp only [Rel] at hr
        obtain ⟨us, hu, hl⟩ := hr
        obtain ⟨u, hu2, hr2⟩ := hl.get hv
        exact ⟨u, S, by simp [execOp, hu, Instr.extract, hu2], hok, Ext.refl _ _ _, hr2⟩
      · cases h
    · cases h
  | slice t x lo hi mx =>
    simp only [pstep, Bool.and_eq_true] at h ⊢
    exact Yields.of hok (pSlice_ok (st x h.1.1.1.1) (relO_map hρ lo h.1.1.1.2) (relO_map hρ hi h.1.1.2) (relO_map hρ mx h.1.2) h.2)
  | build t parts =>
    simp only [pstep, Bool.and_eq_true, List.all_eq_true] at h ⊢
    refine Yields.of hok (pBuild_ok (by simp) (fun i p q hp hq => ?_) h.2)
    simp only [Array.toList_map, List.getElem?_map] at hp hq
    cases hx : parts.toList[i]? with
    | none => rw [hx] at hp; cases hp
    | some z =>
      rw [hx] at hp hq
      injection hp with hp; injection hq with hq; subst hp; subst hq
      exact ⟨rfl, st z.2 (h.1 z (List.mem_of_getElem? hx))⟩
  | buildSlice t len parts =>
    simp only [pstep, Bool.and_eq_true, List.all_eq_true] at h ⊢
    obtain ⟨r, C, ce, hr, hrr⟩ := pBuildSlice_ok (P := P) hok (t := t) (len := len) (parts := parts.toList.map fun p => (p.1, (ρ p.2).strip)) (pv := parts.map fun p => (p.1, ρv p.2)) (by simp) (fun i p q hp hq => by
      simp only [Array.toList_map, List.getElem?_map] at hp hq
      cases hx : parts.toList[i]? with
      | none => rw [hx] at hp; cases hp
      | some z =>
        rw [hx] at hp hq
        injection hp with hp; injection hq with hq; subst hp; subst hq
        exact ⟨rfl, st z.2 (h.1 z (List.mem_of_getElem? hx))⟩) h.2
    exact ⟨r, S.imm (.cells C ce), by simp [execOp, hr], imm_ok hok C ce, imm_ext hok C ce, hrr⟩
  | makeFunc fn first captured =>
    cases fn with
    | func f =>
      simp only [pstep, Bool.and_eq_true, List.all_eq_true, Array.isEmpty_iff] at h ⊢
      refine ⟨_, S, rfl, hok, Ext.refl _ _ _, ?_⟩
      simp only [Rel, h.1]
      refine ⟨captured.toList.map ρv, by simp; apply Array.ext'; simp, RelL.mk (by simp) fun i a v ha hv => ?_⟩
      simp only [List.getElem?_map] at ha hv
      cases hx : captured.toList[i]? with
      | none => rw [hx] at ha; cases ha
      | some z =>
        rw [hx] at ha hv
        injection ha with ha; injection hv with hv; subst ha; subst hv
        exact st z (h.2 z (List.mem_of_getElem? hx))
    | _ => cases h
  | call c =>
    obtain ⟨callee, args, argTypes⟩ := c
    cases callee with
    | builtin b =>
      cases b with
      | len =>
        simp only [pstep] at h ⊢
        split at h
        · rename_i x t ts ha ht
          simp only [Bool.and_eq_true] at h
          obtain ⟨u, hu, hr⟩ := pLen_ok (P := P) (ts := argTypes) (t := t) (by rw [← Array.getElem?_toList, ht]; rfl) type (st x h.1) h.2
          refine ⟨u, S, ?_, hok, Ext.refl _ _ _, hr⟩
          have : args.map ρv = #[ρv x] := by apply Array.ext'; simp [ha]
          simp [execOp, resolve, invoke, builtin, this, hu]
        · cases h
      | cap =>
        simp only [pstep] at h ⊢
        split at h
        · rename_i x t ts ha ht
          simp only [Bool.and_eq_true] at h
          obtain ⟨u, hu, hr⟩ := pCap_ok (P := P) (ts := argTypes) (t := t) (by rw [← Array.getElem?_toList, ht]; rfl) type (st x h.1) h.2
          refine ⟨u, S, ?_, hok, Ext.refl _ _ _, hr⟩
          have : args.map ρv = #[ρv x] := by apply Array.ext'; simp [ha]
          simp [execOp, resolve, invoke, builtin, this, hu]
        · cases h
      | max =>
        simp only [pstep] at h ⊢
        split at h
        · rename_i x y ha
          simp only [Bool.and_eq_true] at h
          obtain ⟨u, hu, hr⟩ := pMax_ok (P := P) (ts := argTypes) (ty := type) (st x h.1) (st y h.2.1) h.2.2
          refine ⟨u, S, ?_, hok, Ext.refl _ _ _, hr⟩
          have : args.map ρv = #[ρv x, ρv y] := by apply Array.ext'; simp [ha]
          simp [execOp, resolve, invoke, builtin, this, hu]
        · cases h
      | min =>
        simp only [pstep] at h ⊢
        split at h
        · rename_i x y ha
          simp only [Bool.and_eq_true] at h
          obtain ⟨u, hu, hr⟩ := pMin_ok (P := P) (ts := argTypes) (ty := type) (st x h.1) (st y h.2.1) h.2.2
          refine ⟨u, S, ?_, hok, Ext.refl _ _ _, hr⟩
          have : args.map ρv = #[ρv x, ρv y] := by apply Array.ext'; simp [ha]
          simp [execOp, resolve, invoke, builtin, this, hu]
        · cases h
      | _ => cases h
    | _ => cases h
  | _ => cases h

end
end Go.V
