/- The library V, part 16: regions that draw their order. -/
import Derived.Test.YtjoldnonnjleoaaDoorV15
set_option linter.unusedVariables false
set_option linter.unusedSimpArgs false
namespace Go.V
open Go Go.RowKit

section congr
variable {P : Program} {G : Glob} {H : List Blk} {ρ ρ' : Operand → AV}

theorem list_congr {β : Type} (l : List Operand) (f : AV → β) (h : ∀ x ∈ l, ρ x = ρ' x) : (l.map fun x => f (ρ x)) = l.map fun x => f (ρ' x) :=
  List.map_congr_left fun x hx => by rw [h x hx]
theorem all_congr' (l : List Operand) (h : ∀ x ∈ l, ρ x = ρ' x) : (l.all fun x => (ρ x).ok) = l.all fun x => (ρ' x).ok := by
  induction l with
  | nil => rfl
  | cons x l ih => simp [h x (by simp), ih fun y hy => h y (List.mem_cons_of_mem _ hy)]
theorem parts_congr (l : List (Nat × Operand)) (h : ∀ x ∈ l.map (·.2), ρ x = ρ' x) : (l.map fun p => (p.1, (ρ p.2).strip)) = l.map fun p => (p.1, (ρ' p.2).strip) :=
  List.map_congr_left fun p hp => by rw [h p.2 (List.mem_map.2 ⟨p, hp, rfl⟩)]
theorem parts_all (l : List (Nat × Operand)) (h : ∀ x ∈ l.map (·.2), ρ x = ρ' x) : (l.all fun p => (ρ p.2).ok) = l.all fun p => (ρ' p.2).ok := by
  induction l with
  | nil => rfl
  | cons p l ih => simp [h p.2 (by simp), ih fun y hy => h y (by simp at hy ⊢; exact .inr hy)]

theorem pstep_congr (o : Op) (h : ∀ x ∈ o.operands, ρ x = ρ' x) : pstep P o ρ H = pstep P o ρ' H := by
  cases o with
  | move x => simp only [pstep, h x (by simp [Op.operands])]
  | assign x => simp only [pstep, h x (by simp [Op.operands])]
  | pick c x y => simp only [pstep, h c (by simp [Op.operands]), h x (by simp [Op.operands]), h y (by simp [Op.operands])]
  | load t p => simp only [pstep, h p (by simp [Op.operands])]
  | nilCheck x => simp only [pstep, h x (by simp [Op.operands])]
  | fieldAddr s x f => simp only [pstep, h x (by simp [Op.operands])]
  | field s x f => simp only [pstep, h x (by simp [Op.operands])]
  | indexAddr t x i => simp only [pstep, h x (by simp [Op.operands]), h i (by simp [Op.operands])]
  | index t x i => simp only [pstep, h x (by simp [Op.operands]), h i (by simp [Op.operands])]
  | binOp op t x y yt =>
    simp only [pstep]
    split
    · simp only [h x (by simp [Op.operands])]
    · simp only [h x (by simp [Op.operands]), h y (by simp [Op.operands])]
  | unOp op t x => simp only [pstep, h x (by simp [Op.operands])]
  | convert s d x => simp only [pstep, h x (by simp [Op.operands])]
  | extract x i => simp only [pstep, h x (by simp [Op.operands])]
  | slice t x lo hi mx =>
    have hx := h x (by simp [Op.operands])
    have ho : ∀ (y : Option Operand), (∀ z, y = some z → ρ z = ρ' z) → (y.map fun z => (ρ z).strip) = (y.map fun z => (ρ' z).strip) ∧ (y.all fun z => (ρ z).ok) = (y.all fun z => (ρ' z).ok) := fun y hy => by
      cases y with
      | none => exact ⟨rfl, rfl⟩
      | some z => simp [hy z rfl]
    have h1 := ho lo fun z hz => h z (by simp [Op.operands, hz])
    have h2 := ho hi fun z hz => h z (by simp [Op.operands, hz])
    have h3 := ho mx fun z hz => h z (by simp [Op.operands, hz])
    simp only [pstep, hx, h1.1, h1.2, h2.1, h2.2, h3.1, h3.2]
  | build t ps =>
    have hp : ∀ x ∈ ps.toList.map (·.2), ρ x = ρ' x := fun x hx => h x (by simpa [Op.operands] using hx)
    simp only [pstep, parts_congr _ hp, parts_all _ hp]
  | buildSlice t n ps =>
    have hp : ∀ x ∈ ps.toList.map (·.2), ρ x = ρ' x := fun x hx => h x (by simpa [Op.operands] using hx)
    simp only [pstep, parts_congr _ hp, parts_all _ hp]
  | makeFunc fn first captured =>
    have hc : ∀ x ∈ captured.toList, ρ x = ρ' x := fun x hx => h x (by simp [Op.operands]; exact .inr (by simpa using hx))
    cases fn <;> simp only [pstep, list_congr _ AV.strip hc, all_congr' _ hc]
  | call c =>
    obtain ⟨callee, args, ts⟩ := c
    cases callee with
    | builtin b =>
      have ha : ∀ x ∈ args.toList, ρ x = ρ' x := fun x hx => h x (by simp [Op.operands, Call.operands]; simpa using hx)
      cases b with
      | len => simp only [pstep]; split <;> first | (rename_i e _; rw [e] at ha; simp only [ha _ (List.mem_cons_self)]) | rfl
      | cap => simp only [pstep]; split <;> first | (rename_i e _; rw [e] at ha; simp only [ha _ (List.mem_cons_self)]) | rfl
      | max => simp only [pstep]; split <;> first | (rename_i x y e; rw [e] at ha; simp only [ha x (by simp), ha y (by simp)]) | rfl
      | min => simp only [pstep]; split <;> first | (rename_i x y e; rw [e] at ha; simp only [ha x (by simp), ha y (by simp)]) | rfl
      | _ => rfl
    | _ => rfl
  | _ => rfl

theorem estep_congr (o : Op) (h : ∀ x ∈ o.operands, ρ x = ρ' x) : estep P o ρ H = estep P o ρ' H := by
  cases o with
  | box t x => simp only [estep, h x (by simp [Op.operands])]
  | store t p x => simp only [estep, h p (by simp [Op.operands]), h x (by simp [Op.operands])]
  | makeSlice t l c => simp only [estep, h l (by simp [Op.operands]), h c (by simp [Op.operands])]
  | call c =>
    obtain ⟨callee, args, ts⟩ := c
    cases callee with
    | builtin b =>
      have ha : ∀ x ∈ args.toList, ρ x = ρ' x := fun x hx => h x (by simp [Op.operands, Call.operands]; simpa using hx)
      cases b <;> first
        | rfl
        | (simp only [estep]; split <;> first | (rename_i d x t t1 e _; rw [e] at ha; simp only [ha d (by simp), ha x (by simp)]) | rfl)
    | _ => rfl
  | _ => rfl

theorem opSem_congr {o : Op} {r : AV} {H' : List Blk} (h : ∀ x ∈ o.operands, ρ x = ρ' x) (hs : OpSem P G o ρ H r H') : OpSem P G o ρ' H r H' := by
  cases hs with
  | pure h1 => rw [pstep_congr o h] at h1 ⊢; exact .pure h1
  | eff he h1 => rw [estep_congr o h] at h1 ⊢; exact .eff he h1
  | call c f g cap ho hc hf hk hent hargs r H' h1 =>
    have hff : ρ f = ρ' f := h f (by simp [ho, Op.operands, Call.operands, hc])
    have ha : ∀ x ∈ c.args.toList, ρ x = ρ' x := fun x hx => h x (by
      rw [ho]; simp only [Op.operands, Call.operands]; exact Array.mem_append.2 (.inr (by simpa using hx)))
    rw [hff] at hf hk
    rw [all_congr' _ ha] at hargs
    rw [list_congr _ AV.strip ha] at h1
    exact .call c f g cap ho hc hf hk hent hargs r H' h1
end congr

section
variable {P : Program} {G : Glob} {ops : List Oper} {md : Region.Mode}

theorem ev_putA {a : List AV} {d : Option Tmp} {v : AV} {x : Operand} (h : ∀ t, d = some t → x ≠ .tmp t) : ev G (putA a d v) x = ev G a x := by
  cases x with
  | tmp t =>
    cases d with
    | none => rfl
    | some e => exact getA_putA_ne v fun q => h e rfl (by rw [q])
  | _ => rfl

theorem step1_put {o : Oper} {a : List AV} {H H' : List Blk} {r v : AV} {d : Option Tmp} (h : ∀ t, d = some t → t ∉ o.looksAt ops.toArray) :
    (Step1 P G ops o (putA a d v) H r H' → Step1 P G ops o a H r H') ∧ (Step1 P G ops o a H r H' → Step1 P G ops o (putA a d v) H r H') := by
  have hop : ∀ x ∈ o.op.operands, ev G (putA a d v) x = ev G a x := fun x hx => ev_putA fun t ht hxt => h t ht (by
    subst hxt
    exact List.mem_append_left _ (List.mem_filterMap.2 ⟨.tmp t, by simpa using hx, rfl⟩))
  have hg : ∀ j want, o.guard = some (j, want) → gBool ops (putA a d v) j want = gBool ops a j want := fun j want hj => by
    unfold gBool
    cases ho : ops[j]? with
    | none => rfl
    | some o' =>
      cases hd : o'.dst with
      | none => simp [hd]
      | some e =>
        simp only [hd]
        cases d with
        | none => rfl
        | some t =>
          rw [getA_putA_ne v fun q => h t rfl (by
            subst q
            refine List.mem_append_right _ ?_
            rw [hj]
            simp [ho, hd])]
  constructor
  · intro hs
    unfold Step1 at *
    split at hs
    · exact opSem_congr hop hs
    · rename_i j want hgd
      rw [hg j want hgd] at hs
      obtain ⟨g, h1, h2⟩ := hs
      refine ⟨g, h1, ?_⟩
      rcases h2 with ⟨e, h2⟩ | h2 | ⟨v', e1, e2, h2⟩
      · exact .inl ⟨e, opSem_congr hop h2⟩
      · exact .inr (.inl h2)
      · exact .inr (.inr ⟨v', e1, e2, fun q => opSem_congr hop (h2 q)⟩)
  · intro hs
    have hop' : ∀ x ∈ o.op.operands, ev G a x = ev G (putA a d v) x := fun x hx => (hop x hx).symm
    unfold Step1 at *
    split at hs
    · exact opSem_congr hop' hs
    · rename_i j want hgd
      rw [hg j want hgd]
      obtain ⟨g, h1, h2⟩ := hs
      refine ⟨g, h1, ?_⟩
      rcases h2 with ⟨e, h2⟩ | h2 | ⟨v', e1, e2, h2⟩
      · exact .inl ⟨e, opSem_congr hop' h2⟩
      · exact .inr (.inl h2)
      · exact .inr (.inr ⟨v', e1, e2, fun q => opSem_congr hop' (h2 q)⟩)

/-- An operation that neither reads nor turns memory. -/
def heapless : Op → Bool
  | .move _ | .assign _ | .pick .. | .field .. | .index .. | .unOp .. | .convert .. | .extract .. => true
  | .binOp op _ _ y _ => (nilTest op y).isNone
  | _ => false
theorem pstep_heapless {o : Op} (h : heapless o = true) (ρ : Operand → AV) (H H' : List Blk) : pstep P o ρ H = pstep P o ρ H' := by
  cases o with
  | binOp op t x y yt =>
    simp only [heapless, Option.isNone_iff_eq_none] at h
    simp only [pstep, h]
  | _ => first | rfl | cases h
theorem opSem_heapless {o : Op} (h : heapless o = true) {ρ : Operand → AV} {H H' : List Blk} {r : AV} (hs : OpSem P G o ρ H r H') : H' = H ∧ ∀ H2, OpSem P G o ρ H2 r H2 := by
  cases hs with
  | pure h1 => exact ⟨rfl, fun H2 => by rw [pstep_heapless h ρ H H2] at h1 ⊢; exact .pure h1⟩
  | eff he h1 => exfalso; cases o <;> first | exact Bool.noConfusion he | exact Bool.noConfusion h
  | call c f g cap ho => subst ho; cases h
theorem step1_heapless {o : Oper} (h : heapless o.op = true) {a : List AV} {H H' : List Blk} {r : AV} (hs : Step1 P G ops o a H r H') : H' = H ∧ ∀ H2, Step1 P G ops o a H2 r H2 := by
  unfold Step1 at *
  split at hs
  · exact opSem_heapless h hs
  · obtain ⟨g, h1, h2⟩ := hs
    rcases h2 with ⟨e, h2⟩ | ⟨e1, e2, e3⟩ | ⟨v', e1, e2, h2⟩
    · obtain ⟨q1, q2⟩ := opSem_heapless h h2
      exact ⟨q1, fun H2 => ⟨g, h1, .inl ⟨e, q2 H2⟩⟩⟩
    · exact ⟨e3, fun H2 => ⟨g, h1, .inr (.inl ⟨e1, e2, rfl⟩)⟩⟩
    · exact ⟨e2, fun H2 => ⟨g, h1, .inr (.inr ⟨v', e1, rfl, fun q => (opSem_heapless h (h2 q)).2 H2⟩)⟩⟩
/-- Two operations whose order does not matter. -/
def swaps (oi oj : Op) : Bool := (!isEff oi && !isEff oj) || heapless oi || heapless oj

/-- An operation in a region that draws: what does not turn the own blocks by its kind, leaves them. -/
def DStep (P : Program) (G : Glob) (ops : List Oper) (o : Oper) (a : List AV) (H : List Blk) (r : AV) (H' : List Blk) : Prop := Step1 P G ops o a H r H' ∧ (isEff o.op = false → H' = H)

def AAny (P : Program) (G : Glob) (ops : List Oper) (md : Region.Mode) (K : List AV → List Blk → Prop) : Nat → Array Bool → List AV → List Blk → Prop
  | 0, listed, a, H => Region.ready md ops.toArray listed = [] ∧ K a H
  | fuel + 1, listed, a, H => (Region.ready md ops.toArray listed = [] → K a H) ∧
      ∀ i ∈ Region.ready md ops.toArray listed, ∃ o, ops[i]? = some o ∧ ∃ r H', DStep P G ops o a H r H' ∧ AAny P G ops md K fuel (listed.setIfInBounds i true) (putA a o.dst r) H'

def Closed (md : Region.Mode) (ops : List Oper) (listed : Array Bool) : Prop :=
  ∀ k o, ops[k]? = some o → listed.getD k false = true → ∀ e ∈ o.after, Region.binds md e = true → listed.getD e.on false = true
def reachB (md : Region.Mode) (ops : Array Oper) : Nat → Nat → Nat → Bool
  | 0, _, _ => false
  | n + 1, j, i =>
    match ops[j]? with
    | some o => o.after.any fun e => Region.binds md e && (e.on == i || reachB md ops n e.on i)
    | none => false

theorem reach_listed {listed : Array Bool} (hc : Closed md ops listed) : ∀ (n j i : Nat), listed.getD j false = true → reachB md ops.toArray n j i = true → listed.getD i false = true
  | 0, _, _, _, h => by cases h
  | n + 1, j, i, hj, h => by
    unfold reachB at h
    split at h
    · rename_i o ho
      obtain ⟨e, he, hb⟩ := Array.any_eq_true'.1 h
      simp only [Bool.and_eq_true, Bool.or_eq_true, beq_iff_eq] at hb
      have hl := hc j o (by simpa using ho) hj e he hb.1
      rcases hb.2 with q | q
      · rwa [q] at hl
      · exact reach_listed hc n e.on i hl q
    · cases h
theorem reach_ready {listed : Array Bool} (hc : Closed md ops listed) {n j i : Nat} (hj : j ∈ Region.ready md ops.toArray listed) (h : reachB md ops.toArray n j i = true) : listed.getD i false = true := by
  cases n with
  | zero => cases h
  | succ n =>
    unfold reachB at h
    obtain ⟨_, o, ho, hall⟩ := mem_ready.1 hj
    rw [ho] at h
    obtain ⟨e, he, hb⟩ := Array.any_eq_true'.1 h
    simp only [Bool.and_eq_true, Bool.or_eq_true, beq_iff_eq] at hb
    have hl := hall e he hb.1
    rcases hb.2 with q | q
    · rwa [q] at hl
    · exact reach_listed hc n e.on i hl q
theorem closed_add {listed : Array Bool} (hc : Closed md ops listed) {j : Nat} (hj : j ∈ Region.ready md ops.toArray listed) : Closed md ops (listed.setIfInBounds j true) := by
  intro k o ho hk e he hb
  obtain ⟨_, oj, hoj, hall⟩ := mem_ready.1 hj
  by_cases hkj : j = k
  · subst hkj
    have : ops[j]? = some oj := by simpa using hoj
    rw [ho] at this; injection this with this; subst this
    exact getD_set_true (hall e he hb)
  · rw [getD_set_ne false hkj] at hk
    exact getD_set_true (hc k o ho hk e he hb)
theorem not_listed {listed : Array Bool} {i : Nat} (h : listed.getD i true = false) : listed.getD i false ≠ true := by
  rcases Nat.lt_or_ge i listed.size with h' | h'
  · simp [h'] at h ⊢; exact h
  · simp [Array.getElem?_eq_none h'] at h

theorem aAny_first {K : List AV → List Blk → Prop} {i : Nat} {oi : Oper} {r : AV} {N : Nat} (hi : ops[i]? = some oi) :
    ∀ (fuel : Nat) (listed : Array Bool) (a : List AV) (H H' : List Blk), Closed md ops listed →
      (∀ j oj, ops[j]? = some oj → j ≠ i → listed.getD j true = false → reachB md ops.toArray N j i = true ∨ (swaps oi.op oj.op = true ∧ oi.apart ops.toArray oj = true)) →
      i ∈ Region.ready md ops.toArray listed → DStep P G ops oi a H r H' → AAny P G ops md K fuel (listed.setIfInBounds i true) (putA a oi.dst r) H' → AAny P G ops md K (fuel + 1) listed a H := by
  intro fuel
  induction fuel with
  | zero =>
    intro listed a H H' hc hfree hr hs hA
    refine ⟨fun h => (by rw [h] at hr; cases hr), fun j hj => ?_⟩
    by_cases hji : j = i
    · subst hji; exact ⟨oi, hi, r, H', hs, hA⟩
    · have := ready_mono hj hji
      rw [hA.1] at this
      cases this
  | succ fuel ih =>
    intro listed a H H' hc hfree hr hs hA
    refine ⟨fun h => (by rw [h] at hr; cases hr), fun j hj => ?_⟩
    by_cases hji : j = i
    · subst hji; exact ⟨oi, hi, r, H', hs, hA⟩
    · obtain ⟨hjun, oj', hoj', hall⟩ := mem_ready.1 hj
      have hoj : ops[j]? = some oj' := by simpa using hoj'
      rcases hfree j oj' hoj hji hjun with hre | ⟨hsw, hap⟩
      · exact absurd (reach_ready hc hj hre) (not_listed (mem_ready.1 hr).1)
      · obtain ⟨oj, hoj2, rj, Hj, hsj, hAj⟩ := hA.2 j (ready_mono hj hji)
        rw [hoj] at hoj2; injection hoj2 with hoj2; subst hoj2
        obtain ⟨a1, a2, a3⟩ := Oper.apart_spec hap
        have key : ∃ Hm, DStep P G ops oj' a H rj Hm ∧ DStep P G ops oi (putA a oj'.dst rj) Hm r Hj := by
          simp only [swaps, Bool.or_eq_true, Bool.and_eq_true, Bool.not_eq_true'] at hsw
          rcases hsw with (⟨p1, p2⟩ | hp) | hp
          · have e1 : H' = H := hs.2 p1
            subst e1
            have e2 : Hj = H' := hsj.2 p2
            subst e2
            exact ⟨Hj, ⟨(step1_put a1).1 hsj.1, fun _ => rfl⟩, ⟨(step1_put a3).2 hs.1, fun _ => rfl⟩⟩
          · obtain ⟨e1, q⟩ := step1_heapless hp hs.1
            subst e1
            exact ⟨Hj, ⟨(step1_put a1).1 hsj.1, hsj.2⟩, ⟨(step1_put a3).2 (q Hj), fun _ => rfl⟩⟩
          · obtain ⟨e1, q⟩ := step1_heapless hp hsj.1
            subst e1
            exact ⟨H, ⟨(step1_put a1).1 (q H), fun _ => rfl⟩, ⟨(step1_put a3).2 hs.1, hs.2⟩⟩
        obtain ⟨Hm, hsj', hsi'⟩ := key
        refine ⟨oj', hoj, rj, Hm, hsj', ?_⟩
        refine ih (listed.setIfInBounds j true) _ _ _ (closed_add hc hj) (fun k ok hk hki hun => ?_) (ready_mono hr (Ne.symm hji)) hsi' ?_
        · refine hfree k ok hk hki ?_
          by_cases hjk : j = k
          · subst hjk; exact hjun
          · rw [getD_set_ne true hjk] at hun; exact hun
        · rw [Array.setIfInBounds_comm _ _ hji, ← putA_comm a r rj a2]
          exact hAj

/-- Whether the order of the text serves every order (closed: the kernel reckons it). -/
def lexE (md : Region.Mode) (ops : Array Oper) : Nat → Nat → Array Bool → Bool
  | 0, _, listed => (Region.ready md ops listed).isEmpty
  | n + 1, k, listed => (Region.ready md ops listed).contains k &&
      ((List.range ops.size).all fun j => j == k || listed.getD j true || reachB md ops ops.size j k ||
        (match ops[k]?, ops[j]? with | some ok, some oj => swaps ok.op oj.op && ok.apart ops oj | _, _ => false)) &&
      lexE md ops n (k + 1) (listed.setIfInBounds k true)
def orderOk (ops : List Oper) : Bool := lexE .any ops.toArray ops.length 0 (Array.replicate ops.length false)

/-- The operations in the order of the text, in a region that draws. -/
def ChainD (P : Program) (G : Glob) (ops : List Oper) (K : List AV → List Blk → Prop) : List Oper → List AV → List Blk → Prop
  | [], a, H => K a H
  | o :: rest, a, H => ∃ r H', DStep P G ops o a H r H' ∧ ChainD P G ops K rest (putA a o.dst r) H'

theorem chainD_any {K : List AV → List Blk → Prop} : ∀ (l : List Oper) (k : Nat) (listed : Array Bool) (a : List AV) (H : List Blk), (∀ j, l[j]? = ops[k + j]?) → lexE md ops.toArray l.length k listed = true → Closed md ops listed →
    ChainD P G ops K l a H → AAny P G ops md K l.length listed a H
  | [], k, listed, a, H, _, hB, _, h => ⟨by simpa [lexE] using hB, h⟩
  | o :: l, k, listed, a, H, hl, hB, hc, h => by
    have h0 : ops[k]? = some o := by simpa using (hl 0).symm
    simp only [List.length_cons, lexE, Bool.and_eq_true, List.all_eq_true, List.mem_range] at hB
    obtain ⟨⟨hr, hf⟩, hB'⟩ := hB
    have hr' : k ∈ Region.ready md ops.toArray listed := by simpa using hr
    obtain ⟨r, H', hs, hK⟩ := h
    refine aAny_first (N := ops.toArray.size) h0 l.length listed a H H' hc (fun j oj hj hji hun => ?_) hr' hs ?_
    · have hlt : j < ops.toArray.size := by simpa using (List.getElem?_eq_some_iff.1 hj).1
      have := hf j hlt
      simp only [Bool.or_eq_true, beq_iff_eq, hji, false_or, hun, Bool.false_eq_true, List.getElem?_toArray, h0, hj, Bool.and_eq_true, Bool.not_eq_true'] at this
      rcases this with q | q
      · exact .inl q
      · exact .inr q
    · exact chainD_any l (k + 1) _ _ _ (fun j => by have := hl (j + 1); simpa [Nat.add_assoc, Nat.add_comm 1 j] using this) hB' (closed_add hc hr') hK

theorem aAny_wp {n0 : Nat} {S0 : St} {H0 : List Blk} {K : List AV → List Blk → Prop} {Q : Exit → Act → World → Prop} (hQ : ∀ act w, Ends G n0 S0 H0 K act w → Q .normal act w) :
    ∀ (fuel : Nat) (listed : Array Bool) (a : List AV) (H : List Blk) (S : St) (act : Act), AAny P G ops md K fuel listed a H → S.Ok H → Globs G S.M → n0 ≤ H.length → Ext n0 S0 H0 S H → RelL (S.env H) a act.tmps.toList → act.defers = [] →
      wpAny P md ops.toArray Q fuel listed act S.w
  | 0, listed, a, H, S, act, hA, hok, hG, hn, hext, ha, hd => ⟨hA.1, hQ _ _ ⟨a, H, S, rfl, hA.2, hok, hext, ha, hd⟩⟩
  | fuel + 1, listed, a, H, S, act, hA, hok, hG, hn, hext, ha, hd => by
    refine ⟨fun h0 => hQ _ _ ⟨a, H, S, rfl, hA.1 h0, hok, hext, ha, hd⟩, fun i hi => ?_⟩
    obtain ⟨o, ho, r, H', hs, hA'⟩ := hA.2 i hi
    have ho' : ops.toArray[i]? = some o := by simpa using ho
    unfold wpOp
    simp only [ho']
    exact step1_wp hs.1 hok hG ha fun v S' h1 h2 h3 =>
      aAny_wp hQ fuel _ _ H' S' _ hA' h1 (hG.mono h2.M) (Nat.le_trans hn (h2.len (Nat.le_refl _))) (hext.trans (h2.less hn (Nat.le_refl _))) (relL_put (RelL.mono (h2.le (Nat.le_refl _)) _ _ ha) _ h3) (by cases o.dst <;> simpa [Act.put] using hd)
end
end Go.V
