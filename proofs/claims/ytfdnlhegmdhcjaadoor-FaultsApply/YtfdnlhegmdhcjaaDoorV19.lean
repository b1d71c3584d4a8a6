/- The library V, part 19: the forms in which a walk is done. -/
import Derived.Test.YtfdnlhegmdhcjaaDoorV15
set_option linter.unusedVariables false
set_option linter.unusedSimpArgs false
namespace Go.V
open Go Go.RowKit
section congr
variable {P : Program} {G : Glob} {H : List Blk} {ρ ρ' : Operand → AV}
theorem list_congr {β : Type} (l : List Operand) (f : AV → β) (h : ∀ x ∈ l, ρ x = ρ' x) : (l.map fun x => f (ρ x)) = l.map fun x => f (ρ' x) :=
 List.map_congr_left fun x hx => by rw [h x hx]
theorem all_congr' (l : List Operand) (h : ∀ x ∈ l, ρ x = ρ' x) : (l.all fun x => (ρ x).ok) = l.all fun x => (ρ' x).ok := by
 induction l with
 | nil => rfl
 | cons x l ih => simp [h x (by simp), ih fun y hy => h y (List.mem_cons_of_mem _ hy)]
theorem parts_congr (l : List (Nat × Operand)) (h : ∀ x ∈ l.map (·.2), ρ x = ρ' x) : (l.map fun p => (p.1, (ρ p.2).strip)) = l.map fun p => (p.1, (ρ' p.2).strip) :=
 List.map_congr_left fun p hp => by rw [h p.2 (List.mem_map.2 ⟨p, hp, rfl⟩)]
theorem parts_all (l : List (Nat × Operand)) (h : ∀ x ∈ l.map (·.2), ρ x = ρ' x) : (l.all fun p => (ρ p.2).ok) = l.all fun p => (ρ' p.2).ok := by
 induction l with
 | nil => rfl
 | cons p l ih => simp [h p.2 (by simp), ih fun y hy => h y (by simp at hy ⊢; exact .inr hy)]
theorem pstep_congr (o : Op) (h : ∀ x ∈ o.operands, ρ x = ρ' x) : pstep P o ρ H = pstep P o ρ' H := by
 cases o with
 | move x => simp only [pstep, h x (by simp [Op.operands])]
 | assign x => simp only [pstep, h x (by simp [Op.operands])]
 | pick c x y => simp only [pstep, h c (by simp [Op.operands]), h x (by simp [Op.operands]), h y (by simp [Op.operands])]
 | load t p => simp only [pstep, h p (by simp [Op.operands])]
 | nilCheck x => simp only [pstep, h x (by simp [Op.operands])]
 | fieldAddr s x f => simp only [pstep, h x (by simp [Op.operands])]
 | field s x f => simp only [pstep, h x (by simp [Op.operands])]
 | indexAddr t x i => simp only [pstep, h x (by simp [Op.operands]), h i (by simp [Op.operands])]
 | index t x i => simp only [pstep, h x (by simp [Op.operands]), h i (by simp [Op.operands])]
 | lookup t x i ok => simp only [pstep, h x (by simp [Op.operands]), h i (by simp [Op.operands])]
 | binOp op t x y yt =>
  simp only [pstep]
  split
  ·simp only [h x (by simp [Op.operands])]
  ·simp only [h x (by simp [Op.operands]), h y (by simp [Op.operands])]
 | unOp op t x => simp only [pstep, h x (by simp [Op.operands])]
 | convert s d x => simp only [pstep, h x (by simp [Op.operands])]
 | extract x i => simp only [pstep, h x (by simp [Op.operands])]
 | slice t x lo hi mx =>
  have hx := h x (by simp [Op.operands])
  have ho : ∀ (y : Option Operand), (∀ z, y = some z → ρ z = ρ' z) → (y.map fun z => (ρ z).strip) = (y.map fun z => (ρ' z).strip) ∧ (y.all fun z => (ρ z).ok) = (y.all fun z => (ρ' z).ok) := fun y hy => by
   cases y with
   | none => exact ⟨rfl, rfl⟩
   | some z => simp [hy z rfl]
  have h1 := ho lo fun z hz => h z (by simp [Op.operands, hz])
  have h2 := ho hi fun z hz => h z (by simp [Op.operands, hz])
  have h3 := ho mx fun z hz => h z (by simp [Op.operands, hz])
  simp only [pstep, hx, h1.1, h1.2, h2.1, h2.2, h3.1, h3.2]
 | build t ps =>
  have hp : ∀ x ∈ ps.toList.map (·.2), ρ x = ρ' x := fun x hx => h x (by simpa [Op.operands] using hx)
  simp only [pstep, parts_congr _ hp, parts_all _ hp]
 | buildSlice t n ps =>
  have hp : ∀ x ∈ ps.toList.map (·.2), ρ x = ρ' x := fun x hx => h x (by simpa [Op.operands] using hx)
  simp only [pstep, parts_congr _ hp, parts_all _ hp]
 | makeFunc fn first captured =>
  have hc : ∀ x ∈ captured.toList, ρ x = ρ' x := fun x hx => h x (by simp [Op.operands]; exact .inr (by simpa using hx))
  cases fn <;> simp only [pstep, list_congr _ AV.strip hc, all_congr' _ hc]
 | call c =>
  obtain ⟨callee, args, ts⟩ := c
  cases callee with
  | builtin b =>
   have ha : ∀ x ∈ args.toList, ρ x = ρ' x := fun x hx => h x (by simp [Op.operands, Call.operands]; simpa using hx)
   cases b with
   | len => simp only [pstep]; split <;> first|(rename_i e _; rw [e] at ha; simp only [ha _ (List.mem_cons_self)])|rfl
   | cap => simp only [pstep]; split <;> first|(rename_i e _; rw [e] at ha; simp only [ha _ (List.mem_cons_self)])|rfl
   | max => simp only [pstep]; split <;> first|(rename_i x y e; rw [e] at ha; simp only [ha x (by simp), ha y (by simp)])|rfl
   | min => simp only [pstep]; split <;> first|(rename_i x y e; rw [e] at ha; simp only [ha x (by simp), ha y (by simp)])|rfl
   | _ => rfl
  | _ => rfl
 | _ => rfl
theorem estep_congr (o : Op) (h : ∀ x ∈ o.operands, ρ x = ρ' x) : estep P o ρ H = estep P o ρ' H := by
 cases o with
 | box t x => simp only [estep, h x (by simp [Op.operands])]
 | store t p x => simp only [estep, h p (by simp [Op.operands]), h x (by simp [Op.operands])]
 | makeSlice t l c => simp only [estep, h l (by simp [Op.operands]), h c (by simp [Op.operands])]
 | makeMap t r =>
  cases r with
  | none => rfl
  | some z => simp [estep, h z (by simp [Op.operands])]
 | mapUpdate t m k x => simp only [estep, h m (by simp [Op.operands]), h k (by simp [Op.operands]), h x (by simp [Op.operands])]
 | call c =>
  obtain ⟨callee, args, ts⟩ := c
  cases callee with
  | builtin b =>
   have ha : ∀ x ∈ args.toList, ρ x = ρ' x := fun x hx => h x (by simp [Op.operands, Call.operands]; simpa using hx)
   cases b <;> first
    | rfl
    | (simp only [estep]; split <;> first|(rename_i d x t t1 e _; rw [e] at ha; simp only [ha d (by simp), ha x (by simp)])|rfl)
  | _ => rfl
 | _ => rfl
theorem opSem_congr {o : Op} {r : AV} {H' : List Blk} (h : ∀ x ∈ o.operands, ρ x = ρ' x) (hs : OpSem P G o ρ H r H') : OpSem P G o ρ' H r H' := by
 cases hs with
 | pure h1 => rw [pstep_congr o h] at h1 ⊢; exact .pure h1
 | eff he h1 => rw [estep_congr o h] at h1 ⊢; exact .eff he h1
 | made he r h1 => exact .made he r fun oo ho S ρv hok hr => h1 oo ho S ρv hok fun x hx => by rw [h x hx]; exact hr x hx
 | call c f g cap ho hc hf hk hent hargs r H' h1 =>
  have hff : ρ f = ρ' f := h f (by simp [ho, Op.operands, Call.operands, hc])
  have ha : ∀ x ∈ c.args.toList, ρ x = ρ' x := fun x hx => h x (by
   rw [ho]; simp only [Op.operands, Call.operands]; exact Array.mem_append.2 (.inr (by simpa using hx)))
  rw [hff] at hf hk
  rw [all_congr' _ ha] at hargs
  rw [list_congr _ AV.strip ha] at h1
  exact .call c f g cap ho hc hf hk hent hargs r H' h1
 | yield c f b ho hc hf hk hargs r H' h1 =>
  have hff : ρ f = ρ' f := h f (by simp [ho, Op.operands, Call.operands, hc])
  have ha : ∀ x ∈ c.args.toList, ρ x = ρ' x := fun x hx => h x (by
   rw [ho]; simp only [Op.operands, Call.operands]; exact Array.mem_append.2 (.inr (by simpa using hx)))
  rw [hff] at hf hk
  rw [all_congr' _ ha] at hargs
  rw [list_congr _ AV.strip ha] at h1
  exact .yield c f b ho hc hf hk hargs r H' h1
end congr
section
variable {P : Program} {G : Glob} {ops : List Oper} {md : Region.Mode} {q : Operand → Bool}
theorem ev_putA {a : List AV} {d : Option Tmp} {v : AV} {x : Operand} (h : ∀ t, d = some t → x ≠ .tmp t) : ev G (putA a d v) x = ev G a x := by
 cases x with
 | tmp t =>
  cases d with
  | none => rfl
  | some e => exact getA_putA_ne v fun q => h e rfl (by rw [q])
 | _ => rfl
theorem step1_put {o : Oper} {a : List AV} {H H' : List Blk} {r v : AV} {d : Option Tmp} (h : ∀ t, d = some t → t ∉ o.looksAt ops.toArray) :
  (Step1 P G ops o (putA a d v) H r H' → Step1 P G ops o a H r H') ∧ (Step1 P G ops o a H r H' → Step1 P G ops o (putA a d v) H r H') := by
 have hop : ∀ x ∈ o.op.operands, ev G (putA a d v) x = ev G a x := fun x hx => ev_putA fun t ht hxt => h t ht (by
  subst hxt
  exact List.mem_append_left _ (List.mem_filterMap.2 ⟨.tmp t, by simpa using hx, rfl⟩))
 have hg : ∀ j want, o.guard = some (j, want) → gBool ops (putA a d v) j want = gBool ops a j want := fun j want hj => by
  unfold gBool
  cases ho : ops[j]? with
  | none => rfl
  | some o' =>
   cases hd : o'.dst with
   | none => simp [hd]
   | some e =>
    simp only [hd]
    cases d with
    | none => rfl
    | some t =>
     rw [getA_putA_ne v fun q => h t rfl (by
      subst q
      refine List.mem_append_right _ ?_
      rw [hj]
      simp [ho, hd])]
 constructor
 ·intro hs
  unfold Step1 at *
  split at hs
  ·exact opSem_congr hop hs
  ·rename_i j want hgd
   rw [hg j want hgd] at hs
   obtain ⟨g, h1, h2⟩ := hs
   refine ⟨g, h1, ?_⟩
   rcases h2 with ⟨e, h2⟩|h2|⟨v', e1, e2, h2⟩
   ·exact .inl ⟨e, opSem_congr hop h2⟩
   ·exact .inr (.inl h2)
   ·exact .inr (.inr ⟨v', e1, e2, fun q => opSem_congr hop (h2 q)⟩)
 ·intro hs
  have hop' : ∀ x ∈ o.op.operands, ev G a x = ev G (putA a d v) x := fun x hx => (hop x hx).symm
  unfold Step1 at *
  split at hs
  ·exact opSem_congr hop' hs
  ·rename_i j want hgd
   rw [hg j want hgd]
   obtain ⟨g, h1, h2⟩ := hs
   refine ⟨g, h1, ?_⟩
   rcases h2 with ⟨e, h2⟩|h2|⟨v', e1, e2, h2⟩
   ·exact .inl ⟨e, opSem_congr hop' h2⟩
   ·exact .inr (.inl h2)
   ·exact .inr (.inr ⟨v', e1, e2, fun q => opSem_congr hop' (h2 q)⟩)
def heapless : Op → Bool
 | .move _|.assign _|.pick ..|.field ..|.index ..|.unOp ..|.convert ..|.extract .. => true
 | .binOp op _ _ y _ => (nilTest op y).isNone
 | _ => false
theorem pstep_heapless {o : Op} (h : heapless o = true) (ρ : Operand → AV) (H H' : List Blk) : pstep P o ρ H = pstep P o ρ H' := by
 cases o with
 | binOp op t x y yt =>
  simp only [heapless, Option.isNone_iff_eq_none] at h
  simp only [pstep, h]
 | _ => first|rfl|cases h
theorem opSem_heapless {o : Op} (h : heapless o = true) {ρ : Operand → AV} {H H' : List Blk} {r : AV} (hs : OpSem P G o ρ H r H') : H' = H ∧ ∀ H2, OpSem P G o ρ H2 r H2 := by
 cases hs with
 | pure h1 => exact ⟨rfl, fun H2 => by rw [pstep_heapless h ρ H H2] at h1 ⊢; exact .pure h1⟩
 | eff he h1 => exfalso; cases o <;> first|exact Bool.noConfusion he|exact Bool.noConfusion h
 | made he r h1 => exfalso; cases o <;> first|exact Bool.noConfusion he|exact Bool.noConfusion h
 | call c f g cap ho => subst ho; cases h
 | yield c f b ho => subst ho; cases h
theorem step1_heapless {o : Oper} (h : heapless o.op = true) {a : List AV} {H H' : List Blk} {r : AV} (hs : Step1 P G ops o a H r H') : H' = H ∧ ∀ H2, Step1 P G ops o a H2 r H2 := by
 unfold Step1 at *
 split at hs
 ·exact opSem_heapless h hs
 ·obtain ⟨g, h1, h2⟩ := hs
  rcases h2 with ⟨e, h2⟩|⟨e1, e2, e3⟩|⟨v', e1, e2, h2⟩
  ·obtain ⟨q1, q2⟩ := opSem_heapless h h2
   exact ⟨q1, fun H2 => ⟨g, h1, .inl ⟨e, q2 H2⟩⟩⟩
  ·exact ⟨e3, fun H2 => ⟨g, h1, .inr (.inl ⟨e1, e2, rfl⟩)⟩⟩
  ·exact ⟨e2, fun H2 => ⟨g, h1, .inr (.inr ⟨v', e1, rfl, fun q => (opSem_heapless h (h2 q)).2 H2⟩)⟩⟩
def mkF (q : Operand → Bool) : Bool := q (.global 0) && !q (.global 1)
def effD (q : Operand → Bool) (o : Op) : Bool := (isEff o && !(isMk o && mkF q)) || (match o with|.call { callee := .value f, .. } => !q f|_ => false)
def swaps (q : Operand → Bool) (oi oj : Op) : Bool := (!effD q oi && !effD q oj) || heapless oi || heapless oj
def DStep (P : Program) (G : Glob) (q : Operand → Bool) (ops : List Oper) (o : Oper) (a : List AV) (H : List Blk) (r : AV) (H' : List Blk) : Prop := Step1 P G ops o a H r H' ∧ (effD q o.op = false → H' = H)
def AAny (P : Program) (G : Glob) (q : Operand → Bool) (ops : List Oper) (md : Region.Mode) (K : List AV → List Blk → Prop) : Nat → Array Bool → List AV → List Blk → Prop
 | 0, listed, a, H => Region.ready md ops.toArray listed = [] ∧ K a H
 | fuel + 1, listed, a, H => (Region.ready md ops.toArray listed = [] → K a H) ∧
   ∀ i ∈ Region.ready md ops.toArray listed, ∃ o, ops[i]? = some o ∧ ∃ r H', DStep P G q ops o a H r H' ∧ AAny P G q ops md K fuel (listed.setIfInBounds i true) (putA a o.dst r) H'
def Closed (md : Region.Mode) (ops : List Oper) (listed : Array Bool) : Prop :=
 ∀ k o, ops[k]? = some o → listed.getD k false = true → ∀ e ∈ o.after, Region.binds md e = true → listed.getD e.on false = true
def maskOf (md : Region.Mode) (T : Nat) : List Edge → Nat → Nat
 | [], m => m
 | e :: es, m => maskOf md T es (if Region.binds md e = true then m ||| (1 <<< e.on) ||| ((T >>> (e.on * 256)) % 2 ^ 256) else m)
def ancT (md : Region.Mode) : List Oper → Nat → Nat → Nat
 | [], _, T => T
 | o :: r, k, T =>
  match T ||| ((maskOf md T o.after.toList 0 % 2 ^ 256) <<< (k * 256)) with
  | 0 => ancT md r (k + 1) 0
  | n + 1 => ancT md r (k + 1) (n + 1)
def ReachP (md : Region.Mode) (ops : List Oper) (j i : Nat) : Prop :=
 ∀ listed, Closed md ops listed → (∀ o, ops[j]? = some o → ∀ e ∈ o.after, Region.binds md e = true → listed.getD e.on false = true) → listed.getD i false = true
def TabOk (md : Region.Mode) (ops : List Oper) (T : Nat) : Prop := ∀ j i, i < 256 → T.testBit (j * 256 + i) = true → ReachP md ops j i
theorem mask_ok {T j : Nat} {o : Oper} (ho : ops[j]? = some o) (hT : TabOk md ops T) : ∀ (es : List Edge) (m : Nat), (∀ e ∈ es, e ∈ o.after) → (∀ i, i < 256 → m.testBit i = true → ReachP md ops j i) →
  ∀ i, i < 256 → (maskOf md T es m).testBit i = true → ReachP md ops j i
 | [], m, _, hm, i, hi, h => hm i hi h
 | e :: es, m, hes, hm, i, hi, h => by
  refine mask_ok ho hT es _ (fun e he => hes e (List.mem_cons_of_mem _ he)) (fun i hi h => ?_) i hi h
  split at h
  ·rename_i hb
   simp only [Nat.testBit_or, Bool.or_eq_true] at h
   have hmem := hes e (List.mem_cons_self)
   rcases h with (h|h)|h
   ·exact hm i hi h
   ·rw [Nat.one_shiftLeft, Nat.testBit_two_pow] at h
    have : e.on = i := by simpa using h
    subst this
    exact fun listed hc hp => hp o ho e hmem hb
   ·rw [Nat.testBit_mod_two_pow, Nat.testBit_shiftRight] at h
    simp only [Bool.and_eq_true] at h
    have hr := hT e.on i hi h.2
    exact fun listed hc hp => hr listed hc fun o' ho' e' he' hb' => hc e.on o' ho' (hp o ho e hmem hb) e' he' hb'
  ·exact hm i hi h
theorem ancT_ok : ∀ (l : List Oper) (k T : Nat), (∀ j, l[j]? = ops[k + j]?) → TabOk md ops T → TabOk md ops (ancT md l k T)
 | [], k, T, _, hT => hT
 | o :: l, k, T, hl, hT => by
  have ho : ops[k]? = some o := by have := hl 0; simpa using this.symm
  have hT' : TabOk md ops (T ||| ((maskOf md T o.after.toList 0 % 2 ^ 256) <<< (k * 256))) := fun j i hi h => by
   simp only [Nat.testBit_or, Bool.or_eq_true, Nat.testBit_shiftLeft, Nat.testBit_mod_two_pow, Bool.and_eq_true, decide_eq_true_eq] at h
   rcases h with h|⟨h1, h2, h3⟩
   ·exact hT j i hi h
   ·have hjk : j = k := by omega
    subst hjk
    have e : j * 256 + i - j * 256 = i := by omega
    rw [e] at h3
    exact mask_ok ho hT o.after.toList 0 (fun e he => by simpa using he) (fun i hi h => by simp at h) i hi h3
  unfold ancT
  split
  ·rename_i h0
   rw [h0] at hT'
   exact ancT_ok l (k + 1) 0 (fun j => by have := hl (j + 1); simpa [Nat.add_assoc, Nat.add_comm 1 j] using this) hT'
  ·rename_i n hn
   rw [hn] at hT'
   exact ancT_ok l (k + 1) (n + 1) (fun j => by have := hl (j + 1); simpa [Nat.add_assoc, Nat.add_comm 1 j] using this) hT'
theorem reach_ready {listed : Array Bool} {T : Nat} (hT : TabOk md ops T) (hc : Closed md ops listed) {j i : Nat} (hi : i < 256) (hj : j ∈ Region.ready md ops.toArray listed) (h : T.testBit (j * 256 + i) = true) : listed.getD i false = true := by
 obtain ⟨_, oj, hoj, hall⟩ := mem_ready.1 hj
 exact hT j i hi h listed hc fun o ho e he hb => by
  have : ops[j]? = some oj := by simpa using hoj
  rw [this] at ho; injection ho with ho; subst ho
  exact hall e he hb
theorem closed_add {listed : Array Bool} (hc : Closed md ops listed) {j : Nat} (hj : j ∈ Region.ready md ops.toArray listed) : Closed md ops (listed.setIfInBounds j true) := by
 intro k o ho hk e he hb
 obtain ⟨_, oj, hoj, hall⟩ := mem_ready.1 hj
 by_cases hkj : j = k
 ·subst hkj
  have : ops[j]? = some oj := by simpa using hoj
  rw [ho] at this; injection this with this; subst this
  exact getD_set_true (hall e he hb)
 ·rw [getD_set_ne false hkj] at hk
  exact getD_set_true (hc k o ho hk e he hb)
theorem not_listed {listed : Array Bool} {i : Nat} (h : listed.getD i true = false) : listed.getD i false ≠ true := by
 rcases Nat.lt_or_ge i listed.size with h'|h'
 ·simp [h'] at h ⊢; exact h
 ·simp [Array.getElem?_eq_none h'] at h
theorem aAny_first {K : List AV → List Blk → Prop} {i : Nat} {oi : Oper} {r : AV} {N : Nat} (hT : TabOk md ops N) (hi256 : i < 256) (hi : ops[i]? = some oi) :
  ∀ (fuel : Nat) (listed : Array Bool) (a : List AV) (H H' : List Blk), Closed md ops listed →
   (∀ j oj, ops[j]? = some oj → j ≠ i → listed.getD j true = false → N.testBit (j * 256 + i) = true ∨ (swaps q oi.op oj.op = true ∧ oi.apart ops.toArray oj = true)) →
   i ∈ Region.ready md ops.toArray listed → DStep P G q ops oi a H r H' → AAny P G q ops md K fuel (listed.setIfInBounds i true) (putA a oi.dst r) H' → AAny P G q ops md K (fuel + 1) listed a H := by
 intro fuel
 induction fuel with
 | zero =>
  intro listed a H H' hc hfree hr hs hA
  refine ⟨fun h => (by rw [h] at hr; cases hr), fun j hj => ?_⟩
  by_cases hji : j = i
  ·subst hji; exact ⟨oi, hi, r, H', hs, hA⟩
  ·have := ready_mono hj hji
   rw [hA.1] at this
   cases this
 | succ fuel ih =>
  intro listed a H H' hc hfree hr hs hA
  refine ⟨fun h => (by rw [h] at hr; cases hr), fun j hj => ?_⟩
  by_cases hji : j = i
  ·subst hji; exact ⟨oi, hi, r, H', hs, hA⟩
  ·obtain ⟨hjun, oj', hoj', hall⟩ := mem_ready.1 hj
   have hoj : ops[j]? = some oj' := by simpa using hoj'
   rcases hfree j oj' hoj hji hjun with hre|⟨hsw, hap⟩
   ·exact absurd (reach_ready hT hc hi256 hj hre) (not_listed (mem_ready.1 hr).1)
   ·obtain ⟨oj, hoj2, rj, Hj, hsj, hAj⟩ := hA.2 j (ready_mono hj hji)
    rw [hoj] at hoj2; injection hoj2 with hoj2; subst hoj2
    obtain ⟨a1, a2, a3⟩ := Oper.apart_spec hap
    have key : ∃ Hm, DStep P G q ops oj' a H rj Hm ∧ DStep P G q ops oi (putA a oj'.dst rj) Hm r Hj := by
     simp only [swaps, Bool.or_eq_true, Bool.and_eq_true, Bool.not_eq_true'] at hsw
     rcases hsw with (⟨p1, p2⟩|hp)|hp
     ·have e1 : H' = H := hs.2 p1
      subst e1
      have e2 : Hj = H' := hsj.2 p2
      subst e2
      exact ⟨Hj, ⟨(step1_put a1).1 hsj.1, fun _ => rfl⟩, ⟨(step1_put a3).2 hs.1, fun _ => rfl⟩⟩
     ·obtain ⟨e1, q⟩ := step1_heapless hp hs.1
      subst e1
      exact ⟨Hj, ⟨(step1_put a1).1 hsj.1, hsj.2⟩, ⟨(step1_put a3).2 (q Hj), fun _ => rfl⟩⟩
     ·obtain ⟨e1, q⟩ := step1_heapless hp hsj.1
      subst e1
      exact ⟨H, ⟨(step1_put a1).1 (q H), fun _ => rfl⟩, ⟨(step1_put a3).2 hs.1, hs.2⟩⟩
    obtain ⟨Hm, hsj', hsi'⟩ := key
    refine ⟨oj', hoj, rj, Hm, hsj', ?_⟩
    refine ih (listed.setIfInBounds j true) _ _ _ (closed_add hc hj) (fun k ok hk hki hun => ?_) (ready_mono hr (Ne.symm hji)) hsi' ?_
    ·refine hfree k ok hk hki ?_
     by_cases hjk : j = k
     ·subst hjk; exact hjun
     ·rw [getD_set_ne true hjk] at hun; exact hun
    ·rw [Array.setIfInBounds_comm _ _ hji, ← putA_comm a r rj a2]
     exact hAj
def lexE (q : Operand → Bool) (md : Region.Mode) (ops : Array Oper) (T : Nat) : Nat → Nat → Array Bool → Bool
 | 0, _, listed => (Region.ready md ops listed).isEmpty
 | n + 1, k, listed => decide (k < 256) && (Region.ready md ops listed).contains k &&
   ((List.range ops.size).all fun j => j == k || listed.getD j true || T.testBit (j * 256 + k) ||
    (match ops[k]?, ops[j]? with|some ok, some oj => swaps q ok.op oj.op && ok.apart ops oj|_, _ => false)) &&
   lexE q md ops T n (k + 1) (listed.setIfInBounds k true)
def orderOk (q : Operand → Bool) (ops : List Oper) : Bool :=
 match ancT .any ops 0 0 with
 | 0 => lexE q .any ops.toArray 0 ops.length 0 (Array.replicate ops.length false)
 | n + 1 => lexE q .any ops.toArray (n + 1) ops.length 0 (Array.replicate ops.length false)
theorem orderOk_lex {q : Operand → Bool} {ops : List Oper} (h : orderOk q ops = true) : ∃ T, TabOk .any ops T ∧ lexE q .any ops.toArray T ops.length 0 (Array.replicate ops.length false) = true := by
 have hT : TabOk .any ops (ancT .any ops 0 0) := ancT_ok ops 0 0 (fun j => by simp) fun j i _ h => by simp at h
 unfold orderOk at h
 split at h
 ·rename_i h0; rw [h0] at hT; exact ⟨0, hT, h⟩
 ·rename_i n hn; rw [hn] at hT; exact ⟨n + 1, hT, h⟩
def ChainD (P : Program) (G : Glob) (q : Operand → Bool) (ops : List Oper) (K : List AV → List Blk → Prop) : List Oper → List AV → List Blk → Prop
 | [], a, H => K a H
 | o :: rest, a, H => ∃ r H', DStep P G q ops o a H r H' ∧ ChainD P G q ops K rest (putA a o.dst r) H'
theorem chainD_any {K : List AV → List Blk → Prop} {T : Nat} (hT : TabOk md ops T) : ∀ (l : List Oper) (k : Nat) (listed : Array Bool) (a : List AV) (H : List Blk), (∀ j, l[j]? = ops[k + j]?) → lexE q md ops.toArray T l.length k listed = true → Closed md ops listed →
  ChainD P G q ops K l a H → AAny P G q ops md K l.length listed a H
 | [], k, listed, a, H, _, hB, _, h => ⟨by simpa [lexE] using hB, h⟩
 | o :: l, k, listed, a, H, hl, hB, hc, h => by
  have h0 : ops[k]? = some o := by simpa using (hl 0).symm
  simp only [List.length_cons, lexE, Bool.and_eq_true, List.all_eq_true, List.mem_range, decide_eq_true_eq] at hB
  obtain ⟨⟨⟨h256, hr⟩, hf⟩, hB'⟩ := hB
  have hr' : k ∈ Region.ready md ops.toArray listed := by simpa using hr
  obtain ⟨r, H', hs, hK⟩ := h
  refine aAny_first hT h256 h0 l.length listed a H H' hc (fun j oj hj hji hun => ?_) hr' hs ?_
  ·have hlt : j < ops.toArray.size := by simpa using (List.getElem?_eq_some_iff.1 hj).1
   have := hf j hlt
   simp only [Bool.or_eq_true, beq_iff_eq, hji, false_or, hun, Bool.false_eq_true, List.getElem?_toArray, h0, hj, Bool.and_eq_true, Bool.not_eq_true'] at this
   rcases this with q|q
   ·exact .inl q
   ·exact .inr q
  ·exact chainD_any hT l (k + 1) _ _ _ (fun j => by have := hl (j + 1); simpa [Nat.add_assoc, Nat.add_comm 1 j] using this) hB' (closed_add hc hr') hK
theorem aAny_wp {n0 : Nat} {S0 : St} {H0 : List Blk} {K : List AV → List Blk → Prop} {ds : List Deferred} {Q : Exit → Act → World → Prop} {ro : Option Nat} (hQ : ∀ act w, Ends G n0 S0 H0 ds K act w → Q .normal act w) :
  ∀ (fuel : Nat) (listed : Array Bool) (a : List AV) (H : List Blk) (S : St) (act : Act), AAny P G q ops md K fuel listed a H → S.Ok H → Globs G S.M → n0 ≤ H.length → Ext n0 S0 H0 S H → RelL (S.env H) a act.tmps.toList → Marks S0 ds S H act.defers →
   wpAnyIn (fen ro) 0 P md ops.toArray Q fuel listed act S.w
 | 0, listed, a, H, S, act, hA, hok, hG, hn, hext, ha, hd => ⟨hA.1, hQ _ _ ⟨a, H, S, rfl, hA.2, hok, hext, ha, hd⟩⟩
 | fuel + 1, listed, a, H, S, act, hA, hok, hG, hn, hext, ha, hd => by
  refine ⟨fun h0 => hQ _ _ ⟨a, H, S, rfl, hA.1 h0, hok, hext, ha, hd⟩, fun i hi => ?_⟩
  obtain ⟨o, ho, r, H', hs, hA'⟩ := hA.2 i hi
  have ho' : ops.toArray[i]? = some o := by simpa using ho
  unfold wpOpIn
  simp only [ho']
  exact step1_wp hs.1 hok hG ha fun v S' h1 h2 h3 =>
   aAny_wp hQ fuel _ _ H' S' _ hA' h1 (hG.mono h2.M) (Nat.le_trans hn (h2.len (Nat.le_refl _))) (hext.trans (h2.less hn (Nat.le_refl _))) (relL_put (RelL.mono (h2.le (Nat.le_refl _)) _ _ ha) _ h3) (by
    have e : (act.put o.dst v).defers = act.defers := by cases o.dst <;> rfl
    rw [e]; exact hd.mono h2)
end
end Go.V
set_option linter.unusedVariables false
set_option linter.unusedSimpArgs false
namespace Go.V
open Go Go.RowKit
abbrev Post := Exit → List AV → List Blk → Prop
def AWp (ρ : Bool) (P : Program) (G : Glob) (n0 : Nat) (c : Code) (Q : Post) (a : List AV) (H : List Blk) : Prop :=
 ∀ (ro : Option Nat) (S : St) (act : Act), ro.isSome = ρ → S.Ok H → Globs G S.M → n0 ≤ H.length → RelL (S.env H) a act.tmps.toList → c.wpIn (fen ro) 0 P (fun e => Ends G n0 S H act.defers (Q e)) act S.w
def thenA (K : List AV → List Blk → Prop) (Q : Post) : Post
 | .normal, a, H => K a H
 | e, a, H => Q e a H
def inBlockA (id : Nat) (Q : Post) : Post
 | .exit id', a, H => if id' = id then Q .normal a H else Q (.exit id') a H
 | e, a, H => Q e a H
def Weak (n0 : Nat) (a : List AV) (H : List Blk) (a1 : List AV) (H1 : List Blk) : Prop :=
 ∀ (S : St) (vs : List Value), S.Ok H → n0 ≤ H.length → RelL (S.env H) a vs → ∃ S1, S1.w = S.w ∧ S1.Ok H1 ∧ Ext n0 S H S1 H1 ∧ RelL (S1.env H1) a1 vs
section
variable {ρ : Bool} {P : Program} {G : Glob} {n0 : Nat} {Q : Post} {a : List AV} {H : List Blk}
theorem Ends.mono {S : St} {K K' : List AV → List Blk → Prop} {ds : List Deferred} {act : Act} {w : World} (h : Ends G n0 S H ds K act w) (hk : ∀ a H, K a H → K' a H) : Ends G n0 S H ds K' act w :=
 let ⟨a', H', S', h1, h2, h3⟩ := h
 ⟨a', H', S', h1, hk _ _ h2, h3⟩
theorem Ends.from {S S1 : St} {H1 : List Blk} {ds ds1 : List Deferred} {K : List AV → List Blk → Prop} {act : Act} {w : World} (he : Ext n0 S H S1 H1) (hm : Marks S ds S1 H1 ds1) (h : Ends G n0 S1 H1 ds1 K act w) : Ends G n0 S H ds K act w :=
 let ⟨a', H', S', h1, h2, h3, h4, h5, h6⟩ := h
 ⟨a', H', S', h1, h2, h3, he.trans h4, h5, hm.trans h6 he.size h4⟩
theorem awp_mono {c : Code} {Q' : Post} (h : AWp ρ P G n0 c Q a H) (hq : ∀ e a H, Q e a H → Q' e a H) : AWp ρ P G n0 c Q' a H :=
 fun ro S act hr h1 h2 h3 h4 => wpIn_mono (h ro S act hr h1 h2 h3 h4) fun e _ _ he => he.mono (hq e)
theorem awp_seq {x y : Code} (h : AWp ρ P G n0 x (thenA (AWp ρ P G n0 y Q) Q) a H) : AWp ρ P G n0 (.seq x y) Q a H := fun ro S act hr h1 h2 h3 h4 =>
 wpIn_seq (wpIn_mono (h ro S act hr h1 h2 h3 h4) fun e act' w' he => by
  cases e with
  | normal =>
   obtain ⟨a', H', S', rfl, hK, hok, hext, ha, hd⟩ := he
   exact wpIn_mono (hK ro S' act' hr hok (h2.mono hext.M) (hext.len h3) ha) fun e _ _ q => q.from hext hd
  | _ => exact he)
theorem awp_skip (h : Q .normal a H) : AWp ρ P G n0 .skip Q a H := fun ro S act hr h1 h2 h3 h4 => wpIn_skip ⟨a, H, S, rfl, h, h1, Ext.refl _ _ _, h4, Marks.refl _ _ _ _⟩
theorem awp_ret (h : Q .ret a H) : AWp ρ P G n0 .ret Q a H := fun ro S act hr h1 h2 h3 h4 => wpIn_ret ⟨a, H, S, rfl, h, h1, Ext.refl _ _ _, h4, Marks.refl _ _ _ _⟩
theorem awp_exit {id : Nat} (h : Q (.exit id) a H) : AWp ρ P G n0 (.exit id) Q a H := fun ro S act hr h1 h2 h3 h4 => wpIn_exit ⟨a, H, S, rfl, h, h1, Ext.refl _ _ _, h4, Marks.refl _ _ _ _⟩
theorem awp_label {l : Nat} (h : Q .normal a H) : AWp ρ P G n0 (.label l) Q a H := fun ro S act hr h1 h2 h3 h4 => wpIn_label ⟨a, H, S, rfl, h, h1, Ext.refl _ _ _, h4, Marks.refl _ _ _ _⟩
theorem awp_block {id : Nat} {c : Code} (h : AWp ρ P G n0 c (inBlockA id Q) a H) : AWp ρ P G n0 (.block id c) Q a H := fun ro S act hr h1 h2 h3 h4 =>
 wpIn_block (wpIn_mono (h ro S act hr h1 h2 h3 h4) fun e act' w' he => by
  cases e with
  | exit id' =>
   by_cases hid : id' = id
   ·have he' : Ends G n0 S H act.defers (Q .normal) act' w' := he.mono fun a H q => by simpa [inBlockA, hid] using q
    simpa [Exit.inBlock, hid] using he'
   ·have he' : Ends G n0 S H act.defers (Q (.exit id')) act' w' := he.mono fun a H q => by simpa [inBlockA, hid] using q
    simpa [Exit.inBlock, hid] using he'
  | _ => exact he)
theorem awp_cond {c : Operand} {x y : Code} {b : Bool} (hc : (ev G a c).strip = .bool b) (hk : (ev G a c).ok = true) (ht : b = true → AWp ρ P G n0 x Q a H) (hf : b = false → AWp ρ P G n0 y Q a H) : AWp ρ P G n0 (.cond c x y) Q a H :=
 fun ro S act hr0 h1 h2 h3 h4 => by
  have hr := (rel_ev (act := act) h2 h4 c).strip hk
  rw [hc] at hr
  have hv : act.eval c = .bool b := by simpa [Rel] using hr
  exact wpIn_cond_split hv (fun e => ht e ro S act hr0 h1 h2 h3 h4) fun e => hf e ro S act hr0 h1 h2 h3 h4
theorem awp_any {c : Operand} {x y : Code} (hc : (ev G a c).strip = .anyb) (hk : (ev G a c).ok = true) (ht : AWp ρ P G n0 x Q a H) (hf : AWp ρ P G n0 y Q a H) : AWp ρ P G n0 (.cond c x y) Q a H :=
 fun ro S act hr0 h1 h2 h3 h4 => by
  have hr := (rel_ev (act := act) h2 h4 c).strip hk
  rw [hc] at hr
  simp only [Rel] at hr
  obtain ⟨b, hv⟩ := hr
  exact wpIn_cond_split hv (fun e => ht ro S act hr0 h1 h2 h3 h4) fun e => hf ro S act hr0 h1 h2 h3 h4
theorem awp_weak {c : Code} {a1 : List AV} {H1 : List Blk} (hw : Weak n0 a H a1 H1) (h : AWp ρ P G n0 c Q a1 H1) : AWp ρ P G n0 c Q a H := fun ro S act hr0 h1 h2 h3 h4 => by
 obtain ⟨S1, e1, e2, e3, e4⟩ := hw S _ h1 h3 h4
 have := h ro S1 act hr0 e2 (h2.mono e3.M) (e3.len h3) e4
 rw [e1] at this
 exact wpIn_mono this fun e _ _ q => q.from e3 (Marks.refl _ _ _ _)
theorem Weak.refl (a : List AV) (H : List Blk) : Weak n0 a H a H := fun S vs h1 h2 h3 => ⟨S, rfl, h1, Ext.refl _ _ _, h3⟩
theorem Weak.trans {a1 a2 : List AV} {H1 H2 : List Blk} (h : Weak n0 a H a1 H1) (k : Weak n0 a1 H1 a2 H2) : Weak n0 a H a2 H2 := fun S vs h1 h2 h3 => by
 obtain ⟨S1, e1, e2, e3, e4⟩ := h S vs h1 h2 h3
 obtain ⟨S2, f1, f2, f3, f4⟩ := k S1 vs e2 (e3.len h2) e4
 exact ⟨S2, f1.trans e1, f2, e3.trans f3, f4⟩
theorem wpIn_loop_rel {F : Fence} {m : Nat} {c : Code} {Q : Exit → Act → World → Prop} (I : Nat → Act → World → Prop) (round : ∀ n a w, I n a w → c.wpIn F m P (Exit.then (fun a' w' => ∃ m, m < n ∧ I m a' w') Q) a w) :
  ∀ n act w, I n act w → (Code.loop c).wpIn F m P Q act w := by
 intro n act w h₀ b k cs hro hb hr
 have key : ∀ n act w, I n act w → ∃ e a' w', Q e a' w' ∧ ArrivesIn (Machine.fenced P F) P (lone (b.atR act (.code c :: .inLoop c :: k)) cs w) b k cs e a' w' := by
  intro n
  induction n using Nat.strongRecOn with
  | _ n ih =>
   intro act w hI
   obtain ⟨e, a₁, w₁, hq, harr⟩ := round n act w hI b (.inLoop c :: k) cs hro hb hr
   cases e with
   | normal =>
    obtain ⟨m, hlt, hI₁⟩ := hq
    obtain ⟨e₂, a₂, w₂, hq₂, harr₂⟩ := ih m hlt a₁ w₁ hI₁
    exact ⟨e₂, a₂, w₂, hq₂, .of_steps (StepsIn.trans harr (.one (fenced_calm hb hr rfl) stepR_inLoop)) harr₂⟩
   | exit id => exact ⟨_, a₁, w₁, hq, .pass (x := .inLoop c) rfl (fun _ _ => .inl (by simp)) harr⟩
   | goto l => exact ⟨_, a₁, w₁, hq, .pass (x := .inLoop c) rfl (fun _ _ => .inl (by simp)) harr⟩
   | ret => exact ⟨_, a₁, w₁, hq, .pass (x := .inLoop c) rfl (fun _ _ => .inl (by simp)) harr⟩
   | panic ch => exact ⟨_, a₁, w₁, hq, .pass (x := .inLoop c) rfl (fun _ _ => .inl (by simp)) harr⟩
   | outgrown => exact ⟨_, a₁, w₁, hq, .pass (x := .inLoop c) rfl (fun _ _ => .inl (by simp)) harr⟩
 obtain ⟨e, a', w', hq, harr⟩ := key n act w h₀
 exact ⟨e, a', w', hq, .of_steps (.one (fenced_calm hb hr rfl) stepR_loop) harr⟩
theorem awp_loop {c : Code} (I : Nat → List AV → List Blk → Prop) {n : Nat} {a1 : List AV} {H1 : List Blk} (hw : Weak n0 a H a1 H1) (h0 : I n a1 H1)
  (round : ∀ n a H, I n a H → AWp ρ P G n0 c (thenA (fun a' H' => ∃ m a2 H2, m < n ∧ Weak n0 a' H' a2 H2 ∧ I m a2 H2) Q) a H) : AWp ρ P G n0 (.loop c) Q a H := fun ro S act hr0 h1 h2 h3 h4 => by
 obtain ⟨S1, e1, e2, e3, e4⟩ := hw S _ h1 h3 h4
 have := wpIn_loop_rel (F := fen ro) (m := 0) (P := P) (c := c) (Q := fun e => Ends G n0 S H act.defers (Q e)) (fun n act' w => Ends G n0 S H act.defers (I n) act' w) (fun n act' w hI => ?_) n act S.w ⟨a1, H1, S1, e1, h0, e2, e3, e4, Marks.refl _ _ _ _⟩
 ·exact this
 ·obtain ⟨a', H', S', rfl, hK, hok, hext, ha, hd⟩ := hI
  refine wpIn_mono (round n a' H' hK ro S' act' hr0 hok (h2.mono hext.M) (hext.len h3) ha) fun e act'' w' he => ?_
  cases e with
  | normal =>
   obtain ⟨a2, H2, S2, rfl, ⟨m, a3, H3, hlt, hwk, hI3⟩, hok2, hext2, ha2, hd2⟩ := he
   obtain ⟨S3, f1, f2, f3, f4⟩ := hwk S2 _ hok2 (hext2.len (hext.len h3)) ha2
   exact ⟨m, hlt, a3, H3, S3, f1, hI3, f2, (hext.trans hext2).trans f3, f4, (hd.trans hd2 hext.size hext2).mono f3⟩
  | _ => exact Ends.from hext hd he
def callK (P : Program) (G : Glob) (dr : Bool) (f : AV) (args : List AV) (H : List Blk) (K : AV → List Blk → Prop) : Prop :=
 match f.strip with
 | .fn g cap => f.ok = true ∧ enters P g = true ∧ (args.all AV.ok) = true ∧
   (if dr = true then ∃ r, ACalls P G g (args.map AV.strip ++ cap) H r H ∧ K r H else ∃ r H', ACalls P G g (args.map AV.strip ++ cap) H r H' ∧ K r H')
 | .yld b => f.ok = true ∧ (args.all AV.ok) = true ∧
   (if dr = true then ∃ r, AYield P G b (args.map AV.strip) H r H ∧ K r H else ∃ r H', AYield P G b (args.map AV.strip) H r H' ∧ K r H')
 | _ => False
def gcallK (P : Program) (G : Glob) (dr g : Bool) (f : AV) (args : List AV) (H : List Blk) (K : AV → List Blk → Prop) : Prop :=
 match f.strip with
 | .fn fn cap => (g = true → f.ok = true ∧ (args.all AV.ok) = true) ∧ enters P fn = true ∧ ∃ r, (g = true → ACalls P G fn (args.map AV.strip ++ cap) H r H) ∧ K (.opt g r) H
 | .yld b => dr = false ∧ (if g = true then f.ok = true ∧ (args.all AV.ok) = true ∧ ∃ r H', AYield P G b (args.map AV.strip) H r H' ∧ K r H' else K (.tup []) H)
 | _ => False
def kpF (q : Operand → Bool) : Bool := q (.global 0) && !q (.global 2)
def isVC : Op → Bool
 | .call { callee := .value _, .. } => true
 | _ => false
def opK (P : Program) (G : Glob) (dr : Operand → Bool) (o : Op) (ρ : Operand → AV) (H : List Blk) (K : AV → List Blk → Prop) : Prop :=
 match o with
 | .call { callee := .value f, args, .. } => callK P G (dr f) (ρ f) (args.toList.map ρ) H (fun r H' => (kpF dr = true → ∃ E, H' = H ++ E) ∧ K r H')
 | .makeSlice t l c => if mkF dr = true then ∃ r, Made P (.makeSlice t l c) ρ H r ∧ K r H else (estep P (.makeSlice t l c) ρ H).1 = true ∧ K (estep P (.makeSlice t l c) ρ H).2.1 (estep P (.makeSlice t l c) ρ H).2.2
 | o => if isEff o = true then (estep P o ρ H).1 = true ∧ K (estep P o ρ H).2.1 (estep P o ρ H).2.2 else (pstep P o ρ H).1 = true ∧ K (pstep P o ρ H).2 H
def gopK (P : Program) (G : Glob) (dr : Operand → Bool) (g : Bool) (o : Op) (ρ : Operand → AV) (H : List Blk) (K : AV → List Blk → Prop) : Prop :=
 match o with
 | .call { callee := .value f, args, .. } => gcallK P G (dr f) g (ρ f) (args.toList.map ρ) H K
 | .makeSlice t l c => if mkF dr = true then ∃ r, (g = true → Made P (.makeSlice t l c) ρ H r) ∧ K (.opt g r) H else g = true ∧ (estep P (.makeSlice t l c) ρ H).1 = true ∧ K (estep P (.makeSlice t l c) ρ H).2.1 (estep P (.makeSlice t l c) ρ H).2.2
 | o => if isEff o = true then g = true ∧ (estep P o ρ H).1 = true ∧ K (estep P o ρ H).2.1 (estep P o ρ H).2.2 else (g = true → (pstep P o ρ H).1 = true) ∧ K (.opt g (pstep P o ρ H).2) H
def tops (P : Program) (G : Glob) (dr : Operand → Bool) (ops : List Oper) (K : List AV → List Blk → Prop) : List Oper → List AV → List Blk → Prop
 | [], a, H => K a H
 | o :: rest, a, H =>
  match o.guard with
  | none => opK P G dr o.op (ev G a) H (fun r H' => tops P G dr ops K rest (putA a o.dst r) H')
  | some (j, want) =>
   match gBool ops a j want with
   | some g => gopK P G dr g o.op (ev G a) H (fun r H' => tops P G dr ops K rest (putA a o.dst r) H')
   | none => False
theorem opK_sem {dr : Operand → Bool} {o : Op} {σ : Operand → AV} {K : AV → List Blk → Prop} (h : opK P G dr o σ H K) : ∃ r H', OpSem P G o σ H r H' ∧ (effD dr o = false → H' = H) ∧ K r H' ∧ (kpF dr = true → isVC o = true → ∃ E, H' = H ++ E) := by
 have plain : isMk o = false → isVC o = false → (if isEff o = true then (estep P o σ H).1 = true ∧ K (estep P o σ H).2.1 (estep P o σ H).2.2 else (pstep P o σ H).1 = true ∧ K (pstep P o σ H).2 H) → ∃ r H', OpSem P G o σ H r H' ∧ (effD dr o = false → H' = H) ∧ K r H' ∧ (kpF dr = true → isVC o = true → ∃ E, H' = H ++ E) := by
  intro hm hv h
  split at h
  ·rename_i he
   exact ⟨_, _, .eff he h.1, fun q => (by simp [effD, he, hm] at q), h.2, fun _ q => by rw [hv] at q; cases q⟩
  ·exact ⟨_, _, .pure h.1, fun _ => rfl, h.2, fun _ q => by rw [hv] at q; cases q⟩
 unfold opK at h
 split at h
 ·rename_i f args ts
  unfold callK at h
  split at h
  ·rename_i g cap hf
   obtain ⟨h1, h2, h3, h4⟩ := h
   have hargs : (args.toList.all fun x => (σ x).ok) = true := by simpa [List.all_map] using h3
   have hmap : (args.toList.map σ).map AV.strip = args.toList.map fun x => (σ x).strip := by simp
   split at h4
   ·obtain ⟨r, hc, hk⟩ := h4
    rw [hmap] at hc
    exact ⟨r, H, .call _ f g cap rfl rfl hf h1 h2 hargs r H hc, fun _ => rfl, hk.2, fun q _ => hk.1 q⟩
   ·rename_i hdr
    obtain ⟨r, H', hc, hk⟩ := h4
    rw [hmap] at hc
    exact ⟨r, H', .call _ f g cap rfl rfl hf h1 h2 hargs r H' hc, fun q => absurd (by simpa [effD, isEff] using q) hdr, hk.2, fun q _ => hk.1 q⟩
  ·rename_i b hf
   obtain ⟨h1, h3, h4⟩ := h
   have hargs : (args.toList.all fun x => (σ x).ok) = true := by simpa [List.all_map] using h3
   have hmap : (args.toList.map σ).map AV.strip = args.toList.map fun x => (σ x).strip := by simp
   split at h4
   ·obtain ⟨r, hc, hk⟩ := h4
    rw [hmap] at hc
    exact ⟨r, H, .yield _ f b rfl rfl hf h1 hargs r H hc, fun _ => rfl, hk.2, fun q _ => hk.1 q⟩
   ·rename_i hdr
    obtain ⟨r, H', hc, hk⟩ := h4
    rw [hmap] at hc
    exact ⟨r, H', .yield _ f b rfl rfl hf h1 hargs r H' hc, fun q => absurd (by simpa [effD, isEff] using q) hdr, hk.2, fun q _ => hk.1 q⟩
  ·exact h.elim
 ·split at h
  ·obtain ⟨r, hm, hk⟩ := h
   exact ⟨r, H, .made rfl r hm, fun _ => rfl, hk, fun _ q => by cases q⟩
  ·rename_i hmk
   exact ⟨_, _, .eff rfl h.1, fun q => (by simp [effD, isEff, isMk, hmk] at q), h.2, fun _ q => by cases q⟩
 ·rename_i hne hnm
  refine plain ?_ ?_ h
  ·cases o <;> first|rfl|exact absurd rfl (hnm _ _ _)
  ·cases o <;> try rfl
   rename_i c
   obtain ⟨c1, c2, c3⟩ := c
   cases c1 <;> first|rfl|exact absurd rfl (hne _ _ _)
theorem gopK_sem {ops : List Oper} {dr : Operand → Bool} {g : Bool} {o : Oper} {a : List AV} {j : Nat} {want : Bool} (hg : o.guard = some (j, want)) (hb : gBool ops a j want = some g) {K : AV → List Blk → Prop} (h : gopK P G dr g o.op (ev G a) H K) :
  ∃ r H', Step1 P G ops o a H r H' ∧ (effD dr o.op = false → H' = H) ∧ K r H' := by
 have mk : ∀ r H', ((g = true ∧ OpSem P G o.op (ev G a) H r H') ∨ (g = false ∧ r = .tup [] ∧ H' = H) ∨ (∃ v, r = .opt g v ∧ H' = H ∧ (g = true → OpSem P G o.op (ev G a) H v H))) → Step1 P G ops o a H r H' := by
  intro r H' q
  unfold Step1
  rw [hg]
  exact ⟨g, hb, q⟩
 have plain : isMk o.op = false → (if isEff o.op = true then g = true ∧ (estep P o.op (ev G a) H).1 = true ∧ K (estep P o.op (ev G a) H).2.1 (estep P o.op (ev G a) H).2.2 else (g = true → (pstep P o.op (ev G a) H).1 = true) ∧ K (.opt g (pstep P o.op (ev G a) H).2) H) →
   ∃ r H', Step1 P G ops o a H r H' ∧ (effD dr o.op = false → H' = H) ∧ K r H' := by
  intro hm h
  split at h
  ·rename_i he
   exact ⟨_, _, mk _ _ (.inl ⟨h.1, .eff he h.2.1⟩), fun q => (by simp [effD, he, hm] at q), h.2.2⟩
  ·exact ⟨_, _, mk _ _ (.inr (.inr ⟨_, rfl, rfl, fun q => .pure (h.1 q)⟩)), fun _ => rfl, h.2⟩
 unfold gopK at h
 split at h
 ·rename_i f args ts hop
  unfold gcallK at h
  split at h
  ·rename_i fn cap hf
   obtain ⟨h1, h2, r, h3, h4⟩ := h
   refine ⟨_, _, mk (.opt g r) H (.inr (.inr ⟨r, rfl, rfl, fun q => ?_⟩)), fun _ => rfl, h4⟩
   have hargs : (args.toList.all fun x => (ev G a x).ok) = true := by simpa [List.all_map] using (h1 q).2
   have hmap : (args.toList.map (ev G a)).map AV.strip = args.toList.map fun x => (ev G a x).strip := by simp
   have hc := h3 q
   rw [hmap] at hc
   exact .call _ f fn cap hop rfl hf (h1 q).1 h2 hargs r H hc
  ·rename_i b hf
   obtain ⟨hdr, h⟩ := h
   split at h
   ·rename_i hgt
    obtain ⟨h1, h3, r, H', hc, hk⟩ := h
    have hargs : (args.toList.all fun x => (ev G a x).ok) = true := by simpa [List.all_map] using h3
    have hmap : (args.toList.map (ev G a)).map AV.strip = args.toList.map fun x => (ev G a x).strip := by simp
    rw [hmap] at hc
    refine ⟨r, H', mk r H' (.inl ⟨hgt, .yield _ f b hop rfl hf h1 hargs r H' hc⟩), fun q => ?_, hk⟩
    rw [hop] at q
    simp [effD, isEff, hdr] at q
   ·rename_i hgf
    exact ⟨_, H, mk (.tup []) H (.inr (.inl ⟨by simpa using hgf, rfl, rfl⟩)), fun _ => rfl, h⟩
  ·exact h.elim
 ·rename_i t l c hop
  split at h
  ·obtain ⟨r, hm, hk⟩ := h
   exact ⟨_, _, mk (.opt g r) H (.inr (.inr ⟨r, rfl, rfl, fun q => by rw [hop]; exact .made rfl r (hm q)⟩)), fun _ => rfl, hk⟩
  ·rename_i hmk
   exact ⟨_, _, mk _ _ (.inl ⟨h.1, by rw [hop]; exact .eff rfl h.2.1⟩), fun q => (by rw [hop] at q; simp [effD, isEff, isMk, hmk] at q), h.2.2⟩
 ·rename_i hne hnm
  refine plain ?_ h
  revert hnm
  cases o.op <;> intro hnm <;> first|rfl|exact absurd rfl (hnm _ _ _)
theorem tops_chain {ops : List Oper} {dr : Operand → Bool} {K : List AV → List Blk → Prop} : ∀ (l : List Oper) (a : List AV) (H : List Blk), tops P G dr ops K l a H → Chain P G ops K l a H
 | [], a, H, h => h
 | o :: l, a, H, h => by
  unfold tops at h
  split at h
  ·rename_i hg
   obtain ⟨r, H', h1, _, h2, _⟩ := opK_sem h
   exact ⟨r, H', by unfold Step1; rw [hg]; exact h1, tops_chain l _ _ h2⟩
  ·rename_i j want hg
   split at h
   ·rename_i g hb
    obtain ⟨r, H', h1, _, h2⟩ := gopK_sem hg hb h
    exact ⟨r, H', h1, tops_chain l _ _ h2⟩
   ·exact h.elim
theorem tops_chainD {ops : List Oper} {dr : Operand → Bool} {K : List AV → List Blk → Prop} : ∀ (l : List Oper) (a : List AV) (H : List Blk), tops P G dr ops K l a H → ChainD P G dr ops K l a H
 | [], a, H, h => h
 | o :: l, a, H, h => by
  unfold tops at h
  split at h
  ·rename_i hg
   obtain ⟨r, H', h1, h3, h2, _⟩ := opK_sem h
   exact ⟨r, H', ⟨by unfold Step1; rw [hg]; exact h1, h3⟩, tops_chainD l _ _ h2⟩
  ·rename_i j want hg
   split at h
   ·rename_i g hb
    obtain ⟨r, H', h1, h3, h2⟩ := gopK_sem hg hb h
    exact ⟨r, H', ⟨h1, h3⟩, tops_chainD l _ _ h2⟩
   ·exact h.elim
def ChainK (P : Program) (G : Glob) (q : Operand → Bool) (ops : List Oper) (K : List AV → List Blk → Prop) : List Oper → List AV → List Blk → Prop
 | [], a, H => K a H
 | o :: rest, a, H => ∃ r H', (DStep P G q ops o a H r H' ∧ (kpF q = true → o.guard = none → isVC o.op = true → ∃ E, H' = H ++ E)) ∧ ChainK P G q ops K rest (putA a o.dst r) H'
theorem tops_chainK {ops : List Oper} {dr : Operand → Bool} {K : List AV → List Blk → Prop} : ∀ (l : List Oper) (a : List AV) (H : List Blk), tops P G dr ops K l a H → ChainK P G dr ops K l a H
 | [], a, H, h => h
 | o :: l, a, H, h => by
  unfold tops at h
  split at h
  ·rename_i hg
   obtain ⟨r, H', h1, h3, h2, h4⟩ := opK_sem h
   exact ⟨r, H', ⟨⟨by unfold Step1; rw [hg]; exact h1, h3⟩, fun p _ q => h4 p q⟩, tops_chainK l _ _ h2⟩
  ·rename_i j want hg
   split at h
   ·rename_i g hb
    obtain ⟨r, H', h1, h3, h2⟩ := gopK_sem hg hb h
    exact ⟨r, H', ⟨⟨h1, h3⟩, fun _ q => by rw [hg] at q; cases q⟩, tops_chainK l _ _ h2⟩
   ·exact h.elim
def noQ : Operand → Bool := fun _ => false
def allQ : Operand → Bool := fun _ => true
def exQ (ts fs : List Nat) : Operand → Bool
 | .tmp t => !ts.contains t
 | .func f => !fs.contains f
 | _ => true
def mxQ : Operand → Bool
 | .global 1 => false
 | _ => true
def kpQ (ts fs : List Nat) : Operand → Bool
 | .tmp t => !ts.contains t
 | .func f => !fs.contains f
 | .global 2 => false
 | _ => true
theorem noQ_eq (f : Operand) : noQ f = false := rfl
theorem allQ_eq (f : Operand) : allQ f = true := rfl
theorem awp_region {id : Nat} {ops : List Oper} (h : tops P G noQ ops (Q .normal) ops a H) : AWp ρ P G n0 (.region id ops.toArray false) Q a H := fun ro S act hr0 h1 h2 h3 h4 => by
 refine wpIn_region ?_
 have := chain_wpOps (ro := ro) (Q := fun e => Ends G n0 S H act.defers (Q e)) (fun act w q => q) ops 0 a H S act (fun j => by simp) (tops_chain _ _ _ h) h1 h2 h3 (Ext.refl _ _ _) h4 (Marks.refl _ _ _ _)
 rw [List.range_eq_range']
 simpa using this
theorem awp_draw {id : Nat} {ops : List Oper} {dr : Operand → Bool} (hm : P.follows .mixedOrders = true) (ho : orderOk dr ops = true) (h : tops P G dr ops (Q .normal) ops a H) : AWp ρ P G n0 (.region id ops.toArray true) Q a H := fun ro S act hr0 h1 h2 h3 h4 => by
 refine wpIn_region_any hm ?_
 obtain ⟨T, hT, hlex⟩ := orderOk_lex ho
 have hA := chainD_any (md := .any) hT ops 0 (Array.replicate ops.length false) a H (fun j => by simp) hlex (fun k o _ hk => by
  exfalso
  rw [Array.getD_eq_getD_getElem?] at hk
  rcases Nat.lt_or_ge k ops.length with q|q
  ·rw [Array.getElem?_replicate, if_pos q] at hk; cases hk
  ·rw [Array.getElem?_replicate, if_neg (by omega)] at hk; cases hk) (tops_chainD _ _ _ h)
 let S1 : St := S.with (S.w.drewN 1)
 have hok1 : S1.Ok H := ⟨h1.imm, h1.row, h1.ob, h1.inj⟩
 have hext : Ext n0 S H S1 H := ⟨rfl, rfl, rfl, Nat.le_refl _, fun _ _ _ => rfl, fun _ _ q => q, fun _ q => .inl q, fun _ q => .inl q, fun _ _ _ _ q => ⟨_, Nat.le_refl _, q, fun _ => rfl⟩, fun _ _ _ q => q, fun q => q⟩
 have := aAny_wp (ro := ro) (Q := fun e => Ends G n0 S H act.defers (Q e)) (fun act w q => q) ops.length (Array.replicate ops.length false) a H S1 act hA hok1 h2 h3 hext h4 (Marks.refl _ _ _ _)
 have e : ops.toArray.size = ops.length := by simp
 rw [e]
 exact this
end
end Go.V
set_option linter.unusedVariables false
set_option linter.unusedSimpArgs false
namespace Go.V
open Go Go.RowKit
mutual
def AV.ids (p : Nat → Bool) : AV → Bool
 | .own b _ _ _ => p b
 | .ptr b _ _ _ => p b
 | .mp b => p b
 | .yld b => p b
 | .agg cs => idsL p cs
 | .tup cs => idsL p cs
 | .sl _ es _ => idsE p es
 | .iptr cs _ => idsL p cs
 | .fn _ cs => idsL p cs
 | .opt _ v => AV.ids p v
 | _ => true
def idsL (p : Nat → Bool) : List AV → Bool
 | [] => true
 | a :: as => AV.ids p a && idsL p as
def idsE (p : Nat → Bool) : List (List AV) → Bool
 | [] => true
 | e :: es => idsL p e && idsE p es
end
structure Env.agree (p : Nat → Bool) (E E' : Env) : Prop where
 M : ∀ k o, E.M k = some o → E'.M k = some o
 sh : ∀ b, p b = true → E'.sh b = E.sh b ∧ E'.μ b = E.μ b ∧ E'.ν b = E.ν b
mutual
theorem Rel.move {p : Nat → Bool} {E E' : Env} (h : E.agree p E') : ∀ (a : AV) (v : Value), a.ids p = true → Rel E a v → Rel E' a v
 | .int k n, v, _, hr => by simpa [Rel] using hr
 | .bool b, v, _, hr => by simpa [Rel] using hr
 | .str s, v, _, hr => by simpa [Rel] using hr
 | .agg cs, v, hi, hr => by
  simp only [Rel, AV.ids] at hr hi ⊢
  obtain ⟨vs, hv, hl, h1⟩ := hr
  exact ⟨vs, hv, RelL.move h cs vs hi hl, h1⟩
 | .tup cs, v, hi, hr => by
  simp only [Rel, AV.ids] at hr hi ⊢
  obtain ⟨vs, hv, hl⟩ := hr
  exact ⟨vs, hv, RelL.move h cs vs hi hl⟩
 | .sl s es c, v, hi, hr => by
  simp only [Rel, AV.ids] at hr hi ⊢
  obtain ⟨a, cap, hv, h1, h2, h3, h4⟩ := hr
  refine ⟨a, cap, hv, h1, h2, h3, ?_⟩
  rcases h4 with h4|⟨g, off, ha, he⟩
  ·exact .inl h4
  ·exact .inr ⟨g, off, ha, RelE.move h s es g off hi he⟩
 | .own b n hh c, v, hi, hr => by
  simp only [Rel, AV.ids] at hr hi ⊢
  obtain ⟨h1, h2, _⟩ := h.sh b hi
  rw [h1, h2]; exact hr
 | .ptr b i o hh, v, hi, hr => by
  simp only [Rel, AV.ids] at hr hi ⊢
  obtain ⟨h1, h2, _⟩ := h.sh b hi
  rw [h1, h2]; exact hr
 | .iptr cs o, v, hi, hr => by
  simp only [Rel, AV.ids] at hr hi ⊢
  obtain ⟨g, off, hv, hc⟩ := hr
  exact ⟨g, off, hv, RelC.move h cs g off hi hc⟩
 | .fn f cap, v, hi, hr => by
  simp only [Rel, AV.ids] at hr hi ⊢
  obtain ⟨vs, hv, hl⟩ := hr
  exact ⟨vs, hv, RelL.move h cap vs hi hl⟩
 | .mp b, v, hi, hr => by
  simp only [Rel, AV.ids] at hr hi ⊢
  rw [(h.sh b hi).2.2]; exact hr
 | .opt g w, v, hi, hr => by
  simp only [Rel, AV.ids] at hr hi ⊢
  exact ⟨fun hg => Rel.move h w v hi (hr.1 hg), hr.2⟩
 | .lit u, v, _, hr => by simpa [Rel] using hr
 | .anyb, v, _, hr => by simpa [Rel] using hr
 | .anyi k, v, _, hr => by simpa [Rel] using hr
 | .err, v, _, hr => by simpa [Rel] using hr
 | .top, v, _, hr => by simp [Rel]
 | .yld b, v, hi, hr => by
  simp only [Rel, AV.ids] at hr hi ⊢
  rw [(h.sh b hi).2.2]; exact hr
theorem RelL.move {p : Nat → Bool} {E E' : Env} (h : E.agree p E') : ∀ (as : List AV) (vs : List Value), idsL p as = true → RelL E as vs → RelL E' as vs
 | [], vs, _, hr => by simpa [RelL] using hr
 | a :: as, vs, hi, hr => by
  simp only [RelL, idsL, Bool.and_eq_true] at hr hi ⊢
  obtain ⟨u, us, hv, h1, h2⟩ := hr
  exact ⟨u, us, hv, Rel.move h a u hi.1 h1, RelL.move h as us hi.2 h2⟩
theorem RelC.move {p : Nat → Bool} {E E' : Env} (h : E.agree p E') : ∀ (as : List AV) (g off : Nat), idsL p as = true → RelC E as g off → RelC E' as g off
 | [], g, off, _, hr => by simp [RelC]
 | a :: as, g, off, hi, hr => by
  simp only [RelC, idsL, Bool.and_eq_true] at hr hi ⊢
  obtain ⟨⟨u, hu, h1, hr1⟩, hr2⟩ := hr
  exact ⟨⟨u, mcell_mono h.M hu, h1, Rel.move h a u hi.1 hr1⟩, RelC.move h as g (off + 1) hi.2 hr2⟩
theorem RelE.move {p : Nat → Bool} {E E' : Env} (h : E.agree p E') (s : Nat) : ∀ (es : List (List AV)) (g off : Nat), idsE p es = true → RelE E s es g off → RelE E' s es g off
 | [], g, off, _, hr => by simp [RelE]
 | e :: es, g, off, hi, hr => by
  simp only [RelE, idsE, Bool.and_eq_true] at hr hi ⊢
  exact ⟨hr.1, RelC.move h e g off hi.1 hr.2.1, RelE.move h s es g (off + s) hi.2 hr.2.2⟩
end
def none_ : Nat → Bool := fun _ => false
def AV.closed (v : AV) : Bool := v.ids none_
theorem agree_closed {E E' : Env} (h : ∀ k o, E.M k = some o → E'.M k = some o) : E.agree none_ E' := ⟨h, fun b hb => by cases hb⟩
section lists
variable {p : Nat → Bool}
theorem idsL_iff (as : List AV) : idsL p as = true ↔ ∀ a ∈ as, a.ids p = true := by
 induction as with
 | nil => simp [idsL]
 | cons a as ih => simp [idsL, ih]
theorem idsE_iff (es : List (List AV)) : idsE p es = true ↔ ∀ e ∈ es, idsL p e = true := by
 induction es with
 | nil => simp [idsE]
 | cons e es ih => simp [idsE, ih]
theorem idsE_map {α : Type} (xs : List α) (f : α → List AV) (h : ∀ x, idsL p (f x) = true) : idsE p (xs.map f) = true := by
 rw [idsE_iff]; intro e he
 obtain ⟨x, _, rfl⟩ := List.mem_map.1 he
 exact h x
end lists
section
variable {P : Program} {G : Glob}
def PC (P : Program) (G : Glob) (f : FuncId) (args : List AV) (r : AV) : Prop := ACalls P G f args [] r []
theorem pc_lift {f : FuncId} {args : List AV} {r : AV} (h : PC P G f args r) (hc : idsL none_ args = true) (H : List Blk) : ACalls P G f args H r H := fun S vals hok hG ha => by
 let S0 : St := ⟨S.M, fun _ => none, fun _ => none, S.w⟩
 have hat0 : ∀ (T : St) b, T.at [] b = none := fun T b => by simp [St.at]
 have hok0 : S0.Ok [] := ⟨hok.imm, fun b s t es hb => by simp at hb, fun b ob0 hb => by simp at hb, fun b b' g hb => by rw [hat0] at hb; cases hb⟩
 have hargs : RelL (S0.env []) args vals := RelL.move (agree_closed (E := S.env H) (E' := S0.env []) fun k o q => q) _ _ hc ha
 refine (h S0 vals hok0 hG hargs).mono fun e w' hh => ?_
 obtain ⟨v, S1, rfl, rfl, hok1, hext, hr⟩ := hh
 have howns : ∀ (T : St) k, ¬ T.Owns [] k := fun T k ⟨b, hb⟩ => by rw [hat0] at hb; cases hb
 let S' : St := ⟨S1.M, S.μ, S.ν, S1.w⟩
 have hsame : ∀ k, k < S.w.heap.size → S1.w.heap[k]? = S.w.heap[k]? := fun k hk => hext.keep k hk (howns _ _)
 have hMn : ∀ g, g < S.w.heap.size → S.M g = none → S1.M g = none := fun g hg hn => by
  cases hM : S1.M g with
  | none => rfl
  | some o =>
   rcases hext.dom g (by rw [hM]; simp) with q|q|q
   ·exact absurd hn q
   ·exact absurd q (howns _ _)
   ·exact absurd hg (by show ¬ g < S0.w.heap.size; omega)
 have hle : (S.env H).le (S'.env H) := ⟨hext.M, fun b s cur hb => ⟨cur, Nat.le_refl _, hb, fun _ => rfl⟩, fun b g hb => hb⟩
 have hok' : S'.Ok H := by
  refine ⟨hok1.imm, fun b s t es hb => ?_, fun b ob0 hb => ?_, fun b b' g hb hb' => hok.inj b b' g hb hb'⟩
  ·rcases hok.row b s t es hb with q|⟨g, k, cs, h1, h2, h3, h4, h5, h6, h7⟩
   ·exact .inl q
   ·have hlt := (Array.getElem?_eq_some_iff.1 h3).1
    exact .inr ⟨g, k, cs, h1, hMn g hlt h2, (hsame g hlt).trans h3, h4, h5, h6, h7.mono hle⟩
  ·obtain ⟨g, ob1, h1, h2, h3, h4⟩ := hok.ob b ob0 hb
   have hlt := (Array.getElem?_eq_some_iff.1 h3).1
   exact ⟨g, ob1, h1, hMn g hlt h2, (hsame g hlt).trans h3, h4.mono hle⟩
 refine ⟨v, S', rfl, rfl, hok', ⟨hext.os, hext.tape, hext.output, hext.size, fun k hk _ => hsame k hk, hext.M, fun k hk => ?_, fun k hk => .inl hk, fun b s cur _ hb => ⟨cur, Nat.le_refl _, hb, fun _ => rfl⟩, fun b g _ hb => hb, fun q => q⟩, ?_⟩
 ·rcases hext.dom k hk with q|q|q
  ·exact .inl q
  ·exact absurd q (howns _ _)
  ·exact .inr (.inr q)
 ·have hle2 : (S1.env []).le (S'.env H) := ⟨fun k o q => q, fun b s cur hb => by simp [St.env, shOf] at hb, fun b g hb => by simp [St.env, mpOf] at hb⟩
  exact Rel.mono hle2 r v hr
def ares1 (P : Program) (a : List AV) (H : List Blk) : ResultVar → Bool × AV
 | .tmp t => ((getA a t).ok, (getA a t).strip)
 | .cell b t => ((getA a b).ok && (pLoad P H t (getA a b).strip).1, (pLoad P H t (getA a b).strip).2)
def ares (P : Program) (rs : List ResultVar) (a : List AV) (H : List Blk) : Bool × AV :=
 match rs with
 | [r] => ares1 P a H r
 | rs => (rs.all fun r => (ares1 P a H r).1, .tup (rs.map fun r => (ares1 P a H r).2))
theorem ares1_ok {S : St} {H : List Blk} {a : List AV} {ts : Array Value} (hok : S.Ok H) (ha : RelL (S.env H) a ts.toList) (r : ResultVar) (h : (ares1 P a H r).1 = true) :
  ∃ v, (match r with|.tmp t => pure (ts.getD t undef)|.cell a t => do loadVar t (← asAddr (ts.getD a undef)) : Sem Value).run P S.w = .ok v S.w ∧ Rel (S.env H) (ares1 P a H r).2 v := by
 cases r with
 | tmp t => exact ⟨_, rfl, (rel_getA ha t).strip h⟩
 | cell b t =>
  simp only [ares1, Bool.and_eq_true] at h ⊢
  have hr := (rel_getA ha b).strip h.1
  obtain ⟨u, hu, hru⟩ := pLoad_ok (P := P) hok hr h.2
  refine ⟨u, ?_, hru⟩
  have hp : ∃ ad, ts.getD b undef = .pointer (some ad) := by
   have h2 := h.2
   unfold pLoad at h2
   cases hT : tinfo P t with
   | none => rw [hT] at h2; cases h2
   | some T =>
    simp only [hT] at h2
    generalize (getA a b).strip = x at h2 hr
    cases x with
    | ptr b' i o hh =>
     simp only at h2
     cases hb : H[b']? with
     | none => rw [hb] at h2; cases h2
     | some B =>
      cases B with
      | ob _ => rw [hb] at h2; cases h2
      | row s bt es =>
       simp only [hb, Bool.and_eq_true, decide_eq_true_eq] at h2
       obtain ⟨s', g, k, _, _, hv⟩ := rel_ptr hr (by simp [isLen, shOf_of hb, h2.1.1])
       exact ⟨_, hv⟩
    | iptr cs o =>
     simp only [Rel] at hr
     obtain ⟨g, off, hv, _⟩ := hr
     exact ⟨_, hv⟩
    | _ => simp only at h2; cases h2
  obtain ⟨ad, had⟩ := hp
  rw [had] at hu ⊢
  simpa [Instr.loadAt, Instr.sureAddr, asAddr] using hu
theorem ares_ok {S : St} {H : List Blk} {a : List AV} {ts : Array Value} {fn : Func} (hok : S.Ok H) (ha : RelL (S.env H) a ts.toList) (h : (ares P fn.results.toList a H).1 = true) :
  ∃ v, (results fn ts).run P S.w = .ok v S.w ∧ Rel (S.env H) (ares P fn.results.toList a H).2 v := by
 have hm : ∀ rs : List ResultVar, (rs.all fun r => (ares1 P a H r).1) = true → ∃ vs : List Value, (rs.mapM fun r => (match r with|.tmp t => pure (ts.getD t undef)|.cell a t => do loadVar t (← asAddr (ts.getD a undef)) : Sem Value)).run P S.w = .ok vs S.w ∧ RelL (S.env H) (rs.map fun r => (ares1 P a H r).2) vs := by
  intro rs
  induction rs with
  | nil => intro _; exact ⟨[], by simp, by simp [RelL]⟩
  | cons r rs ih =>
   intro hall
   simp only [List.all_cons, Bool.and_eq_true] at hall
   obtain ⟨v, hv, hr⟩ := ares1_ok hok ha r hall.1
   obtain ⟨vs, hvs, hrs⟩ := ih hall.2
   refine ⟨v :: vs, ?_, ?_⟩
   ·simp only [List.mapM_cons, Sem.run_bind, hv, hvs, Result.andThen_ok, Sem.run_pure]
   ·simp only [List.map_cons, RelL]; exact ⟨v, vs, rfl, hr, hrs⟩
 have hall : (fn.results.toList.all fun r => (ares1 P a H r).1) = true := by
  unfold ares at h
  split at h
  ·rename_i r hrs; simp only [hrs, List.all_cons, List.all_nil, Bool.and_true]; exact h
  ·exact h
 obtain ⟨vs, hvs, hrs⟩ := hm _ hall
 have hl : vs.length = fn.results.toList.length := by rw [← hrs.length]; simp
 have hrun : (results fn ts).run P S.w = .ok (if h : vs.toArray.size = 1 then vs.toArray[0] else .tuple vs.toArray) S.w := by
  unfold results
  rw [Array.mapM_eq_mapM_toList]
  simp only [Sem.run_bind, Sem.run_map]
  erw [hvs]
  rfl
 rw [hrun]
 refine ⟨_, rfl, ?_⟩
 unfold ares
 split
 ·rename_i r hrs'
  rw [hrs'] at hrs hl
  simp only [List.map_cons, List.map_nil, RelL] at hrs
  obtain ⟨u, us, rfl, hr, rfl⟩ := hrs
  simpa using hr
 ·rename_i hne
  have : ¬ vs.toArray.size = 1 := by
   intro hv
   simp only [List.size_toArray] at hv
   rw [hl] at hv
   obtain ⟨r, hr⟩ := List.length_eq_one_iff.1 hv
   exact hne r hr
  rw [dif_neg this]
  simp only [Rel]
  exact ⟨vs, rfl, hrs⟩
def Closes (n0 : Nat) (H' : List Blk) (v : AV) (r : AV) (Hf : List Blk) : Prop :=
 ∀ (S' : St) (u : Value), S'.Ok H' → n0 ≤ H'.length → Rel (S'.env H') v u → ∃ S'', S''.w = S'.w ∧ S''.Ok Hf ∧ Ext n0 S' H' S'' Hf ∧ Rel (S''.env Hf) r u
def Fin (P : Program) (fn : Func) (n0 : Nat) (r : AV) (Hf : List Blk) : Post := fun e a' H' =>
 (e = .normal ∨ e = .ret) ∧ (ares P fn.results.toList a' H').1 = true ∧ Closes n0 H' (ares P fn.results.toList a' H').2 r Hf
def St.shut (S : St) (g : Nat) (o : Obj) : St := { S with w := S.w.putObj g o }
theorem shut_ok {S : St} {H : List Blk} {g : Nat} (hok : S.Ok H) (hf : S.Free H g) (o : Obj) : (S.shut g o).Ok H := by
 have hne : ∀ b k, S.at H b = some k → k ≠ g := fun b k hb e => hf.1 ⟨b, by rw [← e]; exact hb⟩
 have hother : ∀ k, k ≠ g → (S.shut g o).w.heap[k]? = S.w.heap[k]? := fun k hk => World.putObj_heap_other hk
 refine ⟨fun k o' hk => ?_, fun b s t es hb => ?_, fun b x hb => ?_, hok.inj⟩
 ·have : k ≠ g := fun e => by rw [e] at hk; exact absurd hk (by show ¬ S.M g = some o'; rw [hf.2]; simp)
  exact (hother k this).trans (hok.imm k o' hk)
 ·rcases hok.row b s t es hb with q|⟨g', k, cs, h1, h2, h3, h4⟩
  ·exact .inl q
  ·exact .inr ⟨g', k, cs, h1, h2, (hother g' (hne b g' (by simp [St.at, hb, h1]))).trans h3, h4⟩
 ·obtain ⟨g', ob1, h1, h2, h3, h4⟩ := hok.ob b x hb
  exact ⟨g', ob1, h1, h2, (hother g' (hne b g' (by simp [St.at, hb, h1]))).trans h3, h4⟩
theorem shut_ext {S0 S : St} {n0 : Nat} {H0 H : List Blk} {g : Nat} (h : Ext n0 S0 H0 S H) (hg : S0.w.heap.size ≤ g) (o : Obj) : Ext n0 S0 H0 (S.shut g o) H :=
 { h with
  size := by simpa [St.shut] using h.size
  keep := fun k hk hn => (World.putObj_heap_other (by omega)).trans (h.keep k hk hn) }
theorem leaves_marks {S0 : St} {n0 : Nat} {H0 H : List Blk} {fn : Func} {ts : Array Value} {R : Ending → World → Prop} : ∀ (Ds : List Nat) (S : St), S.Ok H → Ext n0 S0 H0 S H → Ds.Pairwise (fun x y => y < x) → (∀ g ∈ Ds, S0.w.heap.size ≤ g ∧ S.Free H g ∧ S.w.heap[g]? = some (.deferred (some []))) →
  (∀ S' : St, S'.Ok H → Ext n0 S0 H0 S' H → S'.M = S.M → S'.μ = S.μ → S'.ν = S.ν → ∃ v, (results fn ts).run P S'.w = .ok v S'.w ∧ R (.returned v) S'.w) → LeavesInM Fence.wide 0 P fn ts R (Ds.map mark) .returning S.w
 | [], S, hok, hext, _, _, hR => by
  obtain ⟨v, h1, h2⟩ := hR S hok hext rfl rfl rfl
  exact ⟨v, h1, h2⟩
 | g :: Ds, S, hok, hext, hp, hq, hR => by
  obtain ⟨q1, q2, q3⟩ := hq g (by simp)
  rw [List.pairwise_cons] at hp
  refine ⟨by simp, .inl ⟨g, _, rfl, run_takeDeferred q3, ?_⟩⟩
  exact leaves_marks Ds (S.shut g (.deferred none)) (shut_ok hok q2 _) (shut_ext hext q1 _) hp.2 (fun g' hg' => by
   obtain ⟨r1, r2, r3⟩ := hq g' (by simp [hg'])
   have := hp.1 g' hg'
   exact ⟨r1, r2, (World.putObj_heap_other (by omega)).trans r3⟩) hR
theorem acalls_of_awp {f : FuncId} {fn : Func} {c : Code} {args : List AV} {H Hf : List Blk} {r : AV} (hf : P.funcs[f]? = some fn) (hb : fn.body = some c)
  (h : AWp false P G H.length c (Fin P fn H.length r Hf) (args ++ List.replicate (fn.ntmps - args.length) (.tup [])) H) : ACalls P G f args H r Hf := fun S vals hok hG ha => by
 have hl := ha.length
 have hw := h none S { tmps := vals.toArray ++ Array.replicate (fn.ntmps - vals.toArray.size) undef, defers := [] } rfl hok hG (Nat.le_refl _) (by
  simp only [Array.toList_append, Array.toList_replicate, List.size_toArray, hl]
  exact ha.append (RelL.replicate (by simp [Rel, RelL, undef]) _))
 refine (callsIn_wide (n := 0)).1 (callsIn_of_wp_marks (F := Fence.wide) hf hb trivial (wpIn_mono hw fun e act w hE => ?_))
 obtain ⟨a', H', S', rfl, ⟨he, har, hcl⟩, hok', hext, ha', Ds, hd, hp, hq⟩ := hE
 have key : LeavesInM Fence.wide 0 P fn act.tmps (fun e w' => ∃ v S', e = .returned v ∧ S'.w = w' ∧ S'.Ok Hf ∧ Ext H.length S H S' Hf ∧ Rel (S'.env Hf) r v) act.defers .returning S'.w := by
  rw [hd, List.append_nil]
  refine leaves_marks Ds S' hok' hext hp hq fun T tok text tM tμ tν => ?_
  have henv : T.env H' = S'.env H' := by simp only [St.env, tM, tμ, tν]
  obtain ⟨v, hv, hr⟩ := ares_ok tok (by rw [henv]; exact ha') har
  obtain ⟨S'', e1, e2, e3, e4⟩ := hcl T v tok (hext.len (Nat.le_refl _)) hr
  exact ⟨v, hv, v, S'', rfl, e1, e2, text.trans e3, e4⟩
 rcases he with rfl|rfl
 ·exact key
 ·exact key
def closeC (H : List Blk) : Nat → AV → AV
 | 0, v => v
 | d + 1, .own b n h c =>
  match H[b]? with
  | some (.row s _ es) => .sl s ((es.take n).map fun e => e.map (closeC H d)) c
  | _ => .own b n h c
 | d + 1, .ptr b i o h =>
  match H[b]? with
  | some (.row _ _ es) => .iptr ((es.getD i []).map (closeC H d)) o
  | _ => .ptr b i o h
 | d + 1, .fn f cap => .fn f (cap.map (closeC H d))
 | _ + 1, v => v
def okC (H : List Blk) : Nat → AV → Bool
 | 0, v => v.closed
 | d + 1, .own b n h c => isLen H b h && (match H[b]? with|some (.row _ _ es) => (es.take n).all fun e => e.all (okC H d)|_ => false)
 | d + 1, .ptr b i o h => isLen H b h && (match H[b]? with|some (.row _ _ es) => decide (i < es.length) && (es.getD i []).all (okC H d)|_ => false)
 | d + 1, .fn f cap => cap.all (okC H d)
 | _ + 1, v => v.closed
def closeA (H : List Blk) (d : Nat) : AV → AV
 | .agg cs => .agg (cs.map (closeC H d))
 | v => closeC H d v
def okA (H : List Blk) (d : Nat) : AV → Bool
 | .agg cs => cs.all (okC H d)
 | v => okC H d v
def closeR (H : List Blk) (d : Nat) : AV → AV
 | .tup vs => .tup (vs.map (closeA H d))
 | v => closeA H d v
def okR (H : List Blk) (d : Nat) : AV → Bool
 | .tup vs => vs.all (okA H d)
 | v => okA H d v
open Classical in
noncomputable def St.freeze (S : St) (H : List Blk) : St := { S with M := fun k => if S.Owns H k then S.w.heap[k]? else S.M k, μ := fun _ => none, ν := fun _ => none }
theorem freeze_M {S : St} {H : List Blk} (hok : S.Ok H) {k : Nat} {o : Obj} (h : S.M k = some o) : (S.freeze H).M k = some o := by
 simp only [St.freeze]
 split
 ·exact hok.imm k o h
 ·exact h
theorem freeze_own {S : St} {H : List Blk} {k : Nat} (h : S.Owns H k) : (S.freeze H).M k = S.w.heap[k]? := by
 simp only [St.freeze]; rw [if_pos h]
theorem freeze_ok {S : St} {H : List Blk} (hok : S.Ok H) : (S.freeze H).Ok [] := by
 refine ⟨fun k o hk => ?_, fun b s t es hb => by simp at hb, fun b ob0 hb => by simp at hb, fun b b' g hb => by simp [St.at] at hb⟩
 simp only [St.freeze] at hk ⊢
 split at hk
 ·exact hk
 ·exact hok.imm k o hk
theorem freeze_ext {S : St} {H : List Blk} (hok : S.Ok H) : Ext 0 S H (S.freeze H) [] where
 os := rfl
 tape := rfl
 output := rfl
 size := Nat.le_refl _
 keep _ _ _ := rfl
 M k o h := freeze_M hok h
 dom k h := by
  simp only [St.freeze] at h
  split at h
  ·rename_i ho; exact .inr (.inl ho)
  ·exact .inl h
 own k h := by obtain ⟨b, hb⟩ := h; simp [St.at] at hb
 sh b s cur hb := by omega
 ν b g hb := by omega
 len _ := by omega
theorem closeC_ok {S : St} {H : List Blk} (hok : S.Ok H) : ∀ (d : Nat) (v : AV) (u : Value), okC H d v = true → Rel (S.env H) v u → Rel ((S.freeze H).env []) (closeC H d v) u
 | 0, v, u, h, hr => by
  simp only [okC, closeC] at *
  exact Rel.move (agree_closed fun k o => freeze_M hok) v u h hr
 | d + 1, v, u, h, hr => by
  have other : okC H (d + 1) v = v.closed → closeC H (d + 1) v = v → Rel ((S.freeze H).env []) (closeC H (d + 1) v) u := fun h1 h2 => by
   rw [h2]; rw [h1] at h
   exact Rel.move (agree_closed fun k o => freeze_M hok) v u h hr
  cases v with
  | own b n hh c =>
   simp only [okC, Bool.and_eq_true] at h
   cases hb : H[b]? with
   | none => rw [hb] at h; cases h.2
   | some B =>
    cases B with
    | ob _ => rw [hb] at h; cases h.2
    | row s t es =>
     simp only [hb] at h
     simp only [closeC, hb]
     obtain ⟨s', hs, hn, hcase⟩ := rel_own hr h.1
     rw [shOf_of hb] at hs; injection hs with hs; injection hs with e1 e2; subst e1
     rcases hcase with ⟨_, ⟨a0, rfl⟩, rfl, hc⟩|⟨g, k, cap, hg, rfl, hncap, hcapk, hcn, hcs⟩
     ·simp only [Rel]
      refine ⟨a0, 0, by simp, by simp, by simp [maxLen], fun k hk => ?_, .inl (by simp)⟩
      rcases hc with rfl|rfl
      ·cases hk
      ·injection hk
     ·obtain ⟨g0, k0, cs, q1, q2, q3, q4, q5, q6, q7⟩ := (hok.row b s t es hb).resolve_left (fun q => by rw [q.1] at hg; cases hg)
      rw [hg] at q1; injection q1 with q1; injection q1 with e1 e3; subst e1; subst e3
      have hM : (S.freeze H).M g = some (.cells cs t (0, 0)) := by
       rw [freeze_own ⟨b, by simp [St.at, hb, hg]⟩]; exact q3
      have hlen : ((es.take n).map fun e => e.map (closeC H d)).length = n := by simp; omega
      simp only [Rel]
      refine ⟨some ⟨g, 0, none⟩, cap, by rw [hlen], by rw [hlen]; exact hncap, by omega, fun k hk => hcs k hk, .inr ⟨g, 0, rfl, RelE.mk fun i e hi => ?_⟩⟩
      rw [List.getElem?_map, List.getElem?_take] at hi
      split at hi
      ·cases hei : es[i]? with
       | none => rw [hei] at hi; cases hi
       | some e0 =>
        rw [hei] at hi
        simp only [Option.map_some, Option.some.injEq] at hi
        subst hi
        obtain ⟨l1, l2⟩ := q7 i e0 hei
        refine ⟨by simpa using l1, RelC.mk fun j a hj => ?_⟩
        rw [List.getElem?_map] at hj
        cases hej : e0[j]? with
        | none => rw [hej] at hj; cases hj
        | some a0 =>
         rw [hej] at hj
         simp only [Option.map_some, Option.some.injEq] at hj
         subst hj
         obtain ⟨w, hw, ho, hrw⟩ := l2 j a0 hej
         refine ⟨w, ?_, ho, closeC_ok hok d a0 w ?_ hrw⟩
         ·show mcell (S.freeze H).M g (0 + i * s + j) = some w
          simp only [mcell, hM, Nat.zero_add]
          exact hw
         ·have h2 := List.all_eq_true.1 h.2 e0 (List.mem_of_getElem? (by rw [List.getElem?_take]; rw [if_pos (by assumption)]; exact hei))
          exact List.all_eq_true.1 h2 a0 (List.mem_of_getElem? hej)
      ·cases hi
  | ptr b i o hh =>
   simp only [okC, Bool.and_eq_true] at h
   cases hb : H[b]? with
   | none => rw [hb] at h; cases h.2
   | some B =>
    cases B with
    | ob _ => rw [hb] at h; cases h.2
    | row s t es =>
     simp only [hb, Bool.and_eq_true, decide_eq_true_eq] at h
     simp only [closeC, hb]
     obtain ⟨s', g, k, hs, hg, rfl⟩ := rel_ptr hr h.1
     rw [shOf_of hb] at hs; injection hs with hs; injection hs with e1 e2; subst e1
     obtain ⟨g0, k0, cs, q1, q2, q3, q4, q5, q6, q7⟩ := (hok.row b s t es hb).resolve_left (fun q => by rw [q.1] at hg; cases hg)
     rw [hg] at q1; injection q1 with q1; injection q1 with e1 e3; subst e1; subst e3
     have hM : (S.freeze H).M g = some (.cells cs t (0, 0)) := by
      rw [freeze_own ⟨b, by simp [St.at, hb, hg]⟩]; exact q3
     have hei : es[i]? = some (es.getD i []) := by
      rw [List.getD_eq_getElem?_getD, List.getElem?_eq_getElem h.2.1]; rfl
     obtain ⟨l1, l2⟩ := q7 i _ hei
     simp only [Rel]
     refine ⟨g, i * s, rfl, RelC.mk fun j a hj => ?_⟩
     rw [List.getElem?_map] at hj
     cases hej : (es.getD i [])[j]? with
     | none => rw [hej] at hj; cases hj
     | some a0 =>
      rw [hej] at hj
      simp only [Option.map_some, Option.some.injEq] at hj
      subst hj
      obtain ⟨w, hw, ho, hrw⟩ := l2 j a0 hej
      refine ⟨w, ?_, ho, closeC_ok hok d a0 w (List.all_eq_true.1 h.2.2 a0 (List.mem_of_getElem? hej)) hrw⟩
      show mcell (S.freeze H).M g (i * s + j) = some w
      simp only [mcell, hM]
      exact hw
  | fn f cap =>
   simp only [okC] at h
   simp only [closeC, Rel] at hr ⊢
   obtain ⟨vs, rfl, hl⟩ := hr
   refine ⟨vs, rfl, RelL.mk (by simpa using hl.length) fun i a v ha hv => ?_⟩
   rw [List.getElem?_map] at ha
   cases hx : cap[i]? with
   | none => rw [hx] at ha; cases ha
   | some x =>
    rw [hx] at ha
    simp only [Option.map_some, Option.some.injEq] at ha
    subst ha
    obtain ⟨v', hv', hr'⟩ := hl.get hx
    rw [hv] at hv'; injection hv' with hv'; subst hv'
    exact closeC_ok hok d x v (List.all_eq_true.1 h x (List.mem_of_getElem? hx)) hr'
  | _ => exact other rfl rfl
theorem closeL_ok {S : St} {H : List Blk} (hok : S.Ok H) (f : AV → AV) (k : AV → Bool) (hf : ∀ v u, k v = true → Rel (S.env H) v u → Rel ((S.freeze H).env []) (f v) u) {as : List AV} {vs : List Value} (h : as.all k = true) (hr : RelL (S.env H) as vs) : RelL ((S.freeze H).env []) (as.map f) vs := by
 refine RelL.mk (by simpa using hr.length) fun i a v ha hv => ?_
 rw [List.getElem?_map] at ha
 cases hx : as[i]? with
 | none => rw [hx] at ha; cases ha
 | some x =>
  rw [hx] at ha
  simp only [Option.map_some, Option.some.injEq] at ha
  subst ha
  obtain ⟨v', hv', hr'⟩ := hr.get hx
  rw [hv] at hv'; injection hv' with hv'; subst hv'
  exact hf x v (List.all_eq_true.1 h x (List.mem_of_getElem? hx)) hr'
theorem closeA_ok {S : St} {H : List Blk} (hok : S.Ok H) (d : Nat) (v : AV) (u : Value) (h : okA H d v = true) (hr : Rel (S.env H) v u) : Rel ((S.freeze H).env []) (closeA H d v) u := by
 have other : okA H d v = okC H d v → closeA H d v = closeC H d v → Rel ((S.freeze H).env []) (closeA H d v) u := fun h1 h2 => by
  rw [h2]; rw [h1] at h
  exact closeC_ok hok d v u h hr
 cases v with
 | agg cs =>
  simp only [okA, closeA, Rel] at *
  obtain ⟨vs, rfl, hl, h1⟩ := hr
  exact ⟨vs, rfl, closeL_ok hok _ _ (closeC_ok hok d) h hl, h1⟩
 | _ => exact other rfl rfl
theorem closeR_ok {S : St} {H : List Blk} (hok : S.Ok H) (d : Nat) (v : AV) (u : Value) (h : okR H d v = true) (hr : Rel (S.env H) v u) : Rel ((S.freeze H).env []) (closeR H d v) u := by
 have other : okR H d v = okA H d v → closeR H d v = closeA H d v → Rel ((S.freeze H).env []) (closeR H d v) u := fun h1 h2 => by
  rw [h2]; rw [h1] at h
  exact closeA_ok hok d v u h hr
 cases v with
 | tup cs =>
  simp only [okR, closeR, Rel] at *
  obtain ⟨vs, rfl, hl⟩ := hr
  exact ⟨vs, rfl, closeL_ok hok _ _ (closeA_ok hok d) h hl⟩
 | _ => exact other rfl rfl
theorem closes_all {H' : List Blk} {v : AV} (d : Nat) (h : okR H' d v = true) : Closes 0 H' v (closeR H' d v) [] := fun S' u hok _ hr =>
 ⟨S'.freeze H', rfl, freeze_ok hok, freeze_ext hok, closeR_ok hok d v u h hr⟩
end
end Go.V
set_option linter.unusedVariables false
set_option linter.unusedSimpArgs false
namespace Go.V
open Go Go.RowKit
section
variable {ρ : Bool} {P : Program} {G : Glob} {n0 : Nat} {Q : Post} {a : List AV} {H : List Blk}
def argsAt (a : List AV) : Nat → List AV → Prop
 | _, [] => True
 | k, x :: xs => getA a k = x ∧ argsAt a (k + 1) xs
theorem argsAt_start (pre args : List AV) (m : Nat) : argsAt (pre ++ (args ++ List.replicate m (.tup []))) pre.length args := by
 induction args generalizing pre with
 | nil => trivial
 | cons x xs ih =>
  refine ⟨by simp [getA, List.getD_eq_getElem?_getD], ?_⟩
  have := ih (pre ++ [x])
  simpa using this
def eqv1 : List AV → List AV → Prop
 | [], [] => True
 | a :: as, b :: bs => (match a, b with|.sl s es c, .sl s' es' c' => (es = [] ∨ s = s') ∧ es = es' ∧ c = c'|a, b => a = b) ∧ eqv1 as bs
 | _, _ => False
def eqvL : List AV → List AV → Prop
 | [], [] => True
 | a :: as, b :: bs => (match a, b with|.sl s es c, .sl s' es' c' => (es = [] ∨ s = s') ∧ es = es' ∧ c = c'|.agg xs, .agg ys => eqv1 xs ys|a, b => a = b) ∧ eqvL as bs
 | _, _ => False
def AV.eqv : AV → AV → Prop
 | .sl s es c, b => match b with|.sl s' es' c' => (es = [] ∨ s = s') ∧ es = es' ∧ c = c'|_ => False
 | .tup as, b => match b with|.tup bs => eqvL as bs|_ => False
 | .agg as, b => match b with|.agg bs => eqvL as bs|_ => False
 | a, b => a = b
theorem rel_sl_eqv {E : Env} {s s' : Nat} {es es' : List (List AV)} {c c' : Option Nat} {v : Value} (h : (es = [] ∨ s = s') ∧ es = es' ∧ c = c') (hr : Rel E (.sl s es c) v) : Rel E (.sl s' es' c') v := by
 obtain ⟨h, rfl, rfl⟩ := h
 rcases h with rfl|rfl
 ·simp only [Rel] at hr ⊢
  obtain ⟨a, cap, h1, h2, h3, h4, _⟩ := hr
  exact ⟨a, cap, h1, h2, h3, h4, by simp⟩
 ·exact hr
theorem rel_eqv1 {E : Env} : ∀ {as bs : List AV} {vs : List Value}, eqv1 as bs → RelL E as vs → RelL E bs vs
 | [], [], _, _, hr => hr
 | [], _ :: _, _, h, _ => h.elim
 | _ :: _, [], _, h, _ => h.elim
 | a :: as, b :: bs, vs, h, hr => by
  simp only [eqv1] at h
  simp only [RelL] at hr ⊢
  obtain ⟨u, us, rfl, h1, h2⟩ := hr
  refine ⟨u, us, rfl, ?_, rel_eqv1 h.2 h2⟩
  have h0 := h.1
  split at h0
  ·exact rel_sl_eqv h0 h1
  ·subst h0; exact h1
theorem rel_eqvL {E : Env} : ∀ {as bs : List AV} {vs : List Value}, eqvL as bs → RelL E as vs → RelL E bs vs
 | [], [], _, _, hr => hr
 | [], _ :: _, _, h, _ => h.elim
 | _ :: _, [], _, h, _ => h.elim
 | a :: as, b :: bs, vs, h, hr => by
  simp only [eqvL] at h
  simp only [RelL] at hr ⊢
  obtain ⟨u, us, rfl, h1, h2⟩ := hr
  refine ⟨u, us, rfl, ?_, rel_eqvL h.2 h2⟩
  have h0 := h.1
  split at h0
  ·exact rel_sl_eqv h0 h1
  ·simp only [Rel] at h1 ⊢
   obtain ⟨vs, hv, hl, ho⟩ := h1
   exact ⟨vs, hv, rel_eqv1 h0 hl, ho⟩
  ·subst h0; exact h1
theorem rel_eqv {E : Env} {a b : AV} {v : Value} (h : a.eqv b) (hr : Rel E a v) : Rel E b v := by
 unfold AV.eqv at h
 split at h
 ·split at h
  ·exact rel_sl_eqv h hr
  ·exact h.elim
 ·split at h
  ·simp only [Rel] at hr ⊢
   obtain ⟨vs, hv, hl⟩ := hr
   exact ⟨vs, hv, rel_eqvL h hl⟩
  ·exact h.elim
 ·split at h
  ·simp only [Rel] at hr ⊢
   obtain ⟨vs, hv, hl, ho⟩ := hr
   exact ⟨vs, hv, rel_eqvL h hl, ho⟩
  ·exact h.elim
 ·subst h; exact hr
theorem Closes.eqv {n0 : Nat} {H' Hf : List Blk} {v r r' : AV} (h : Closes n0 H' v r Hf) (he : r.eqv r') : Closes n0 H' v r' Hf := fun S' u h1 h2 h3 =>
 let ⟨S'', e1, e2, e3, e4⟩ := h S' u h1 h2 h3
 ⟨S'', e1, e2, e3, rel_eqv he e4⟩
theorem eqv_sl (s s' : Nat) (es es' : List (List AV)) (c c' : Option Nat) : (AV.sl s es c).eqv (.sl s' es' c') = ((es = [] ∨ s = s') ∧ es = es' ∧ c = c') := rfl
theorem eqv_tup (as bs : List AV) : (AV.tup as).eqv (.tup bs) = eqvL as bs := rfl
theorem eqv_agg (as bs : List AV) : (AV.agg as).eqv (.agg bs) = eqvL as bs := rfl
theorem eqv_int (k : IntKind) (n : Int) (b : AV) : (AV.int k n).eqv b = (.int k n = b) := rfl
theorem eqv_bool (n : Bool) (b : AV) : (AV.bool n).eqv b = (.bool n = b) := rfl
theorem eqv_str (n : List UInt8) (b : AV) : (AV.str n).eqv b = (.str n = b) := rfl
theorem eqv_own (x n h : Nat) (c : Option Nat) (b : AV) : (AV.own x n h c).eqv b = (.own x n h c = b) := rfl
theorem eqv_ptr (x n h o : Nat) (b : AV) : (AV.ptr x n h o).eqv b = (.ptr x n h o = b) := rfl
theorem eqv_iptr (cs : List AV) (o : Nat) (b : AV) : (AV.iptr cs o).eqv b = (.iptr cs o = b) := rfl
theorem eqv_fn (f : FuncId) (cs : List AV) (b : AV) : (AV.fn f cs).eqv b = (.fn f cs = b) := rfl
theorem eqv_mp (x : Nat) (b : AV) : (AV.mp x).eqv b = (.mp x = b) := rfl
theorem eqv_yld (x : Nat) (b : AV) : (AV.yld x).eqv b = (.yld x = b) := rfl
theorem eqv_lit (x : Value) (b : AV) : (AV.lit x).eqv b = (.lit x = b) := rfl
theorem eqv_err (b : AV) : AV.err.eqv b = (.err = b) := rfl
theorem go_nil : eqvL [] [] = True := rfl
theorem go_cons_sl (s s' : Nat) (es es' : List (List AV)) (c c' : Option Nat) (as bs : List AV) : eqvL (.sl s es c :: as) (.sl s' es' c' :: bs) = (((es = [] ∨ s = s') ∧ es = es' ∧ c = c') ∧ eqvL as bs) := rfl
theorem go_cons_agg (xs ys : List AV) (as bs : List AV) : eqvL (.agg xs :: as) (.agg ys :: bs) = (eqv1 xs ys ∧ eqvL as bs) := rfl
theorem go_cons_int (k : IntKind) (n : Int) (b : AV) (as bs : List AV) : eqvL (.int k n :: as) (b :: bs) = (.int k n = b ∧ eqvL as bs) := rfl
theorem go_cons_bool (n : Bool) (b : AV) (as bs : List AV) : eqvL (.bool n :: as) (b :: bs) = (.bool n = b ∧ eqvL as bs) := rfl
theorem go_cons_str (n : List UInt8) (b : AV) (as bs : List AV) : eqvL (.str n :: as) (b :: bs) = (.str n = b ∧ eqvL as bs) := rfl
theorem go_cons_own (x n h : Nat) (c : Option Nat) (b : AV) (as bs : List AV) : eqvL (.own x n h c :: as) (b :: bs) = (.own x n h c = b ∧ eqvL as bs) := rfl
theorem go_cons_ptr (x n h o : Nat) (b : AV) (as bs : List AV) : eqvL (.ptr x n h o :: as) (b :: bs) = (.ptr x n h o = b ∧ eqvL as bs) := rfl
theorem go_cons_iptr (cs : List AV) (o : Nat) (b : AV) (as bs : List AV) : eqvL (.iptr cs o :: as) (b :: bs) = (.iptr cs o = b ∧ eqvL as bs) := rfl
theorem go_cons_fn (f : FuncId) (cs : List AV) (b : AV) (as bs : List AV) : eqvL (.fn f cs :: as) (b :: bs) = (.fn f cs = b ∧ eqvL as bs) := rfl
theorem go_cons_mp (x : Nat) (b : AV) (as bs : List AV) : eqvL (.mp x :: as) (b :: bs) = (.mp x = b ∧ eqvL as bs) := rfl
theorem go_cons_yld (x : Nat) (b : AV) (as bs : List AV) : eqvL (.yld x :: as) (b :: bs) = (.yld x = b ∧ eqvL as bs) := rfl
theorem go_cons_lit (x : Value) (b : AV) (as bs : List AV) : eqvL (.lit x :: as) (b :: bs) = (.lit x = b ∧ eqvL as bs) := rfl
theorem go_cons_err (b : AV) (as bs : List AV) : eqvL (.err :: as) (b :: bs) = (.err = b ∧ eqvL as bs) := rfl
theorem go1_nil : eqv1 [] [] = True := rfl
theorem go1_cons_sl (s s' : Nat) (es es' : List (List AV)) (c c' : Option Nat) (as bs : List AV) : eqv1 (.sl s es c :: as) (.sl s' es' c' :: bs) = (((es = [] ∨ s = s') ∧ es = es' ∧ c = c') ∧ eqv1 as bs) := rfl
theorem go1_cons_int (k : IntKind) (n : Int) (b : AV) (as bs : List AV) : eqv1 (.int k n :: as) (b :: bs) = (.int k n = b ∧ eqv1 as bs) := rfl
theorem go1_cons_bool (n : Bool) (b : AV) (as bs : List AV) : eqv1 (.bool n :: as) (b :: bs) = (.bool n = b ∧ eqv1 as bs) := rfl
theorem go1_cons_str (n : List UInt8) (b : AV) (as bs : List AV) : eqv1 (.str n :: as) (b :: bs) = (.str n = b ∧ eqv1 as bs) := rfl
def Done (P : Program) (rs : List ResultVar) (d : Nat) (r : AV) : Post := fun e a' H' =>
 (e = .normal ∨ e = .ret) ∧ (ares P rs a' H').1 = true ∧ okR H' d (ares P rs a' H').2 = true ∧ (closeR H' d (ares P rs a' H').2).eqv r
theorem pc_start {f : FuncId} {fn : Func} {c : Code} {args : List AV} {r : AV} (d n : Nat) (rs : List ResultVar) (hf : P.funcs[f]? = some fn) (hb : fn.body = some c) (hn : fn.ntmps = n) (hrs : fn.results.toList = rs) (hl : args.length ≤ n)
  (h : ∀ a, a.length = n → argsAt a 0 args → AWp false P G 0 c (Done P rs d r) a []) : PC P G f args r := by
 refine acalls_of_awp hf hb (awp_mono (h _ ?_ (by simpa using argsAt_start [] args _)) fun e a' H' ⟨h1, h2, h3, h4⟩ => ⟨h1, by rw [hrs]; exact h2, by rw [hrs]; exact (closes_all d h3).eqv h4⟩)
 simp [hn]; omega
def DoneH (P : Program) (rs : List ResultVar) (r : AV) (Hf : List Blk) : Post := fun e a' H' =>
 (e = .normal ∨ e = .ret) ∧ (ares P rs a' H').1 = true ∧ ((ares P rs a' H').2).eqv r ∧ H' = Hf
theorem acalls_start {f : FuncId} {fn : Func} {c : Code} {args : List AV} {H Hf : List Blk} {r : AV} (n : Nat) (rs : List ResultVar) (hf : P.funcs[f]? = some fn) (hb : fn.body = some c) (hn : fn.ntmps = n) (hrs : fn.results.toList = rs) (hl : args.length ≤ n)
  (h : ∀ a, a.length = n → argsAt a 0 args → AWp false P G H.length c (DoneH P rs r Hf) a H) : ACalls P G f args H r Hf := by
 refine acalls_of_awp hf hb (awp_mono (h _ ?_ (by simpa using argsAt_start [] args _)) fun e a' H' ⟨h1, h2, h3, h4⟩ => ⟨h1, by rw [hrs]; exact h2, by
  subst h4; rw [hrs]; exact Closes.eqv (fun S' u h5 h6 h7 => ⟨S', rfl, h5, Ext.refl _ _ _, h7⟩) h3⟩)
 simp [hn]; omega
theorem ev_tmp (G : Glob) (a : List AV) (t : Nat) : ev G a (.tmp t) = getA a t := rfl
theorem strip_int (k : IntKind) (n : Int) : (AV.int k n).strip = .int k n := rfl
theorem strip_bool (b : Bool) : (AV.bool b).strip = .bool b := rfl
theorem strip_str (s : List UInt8) : (AV.str s).strip = .str s := rfl
theorem strip_agg (cs : List AV) : (AV.agg cs).strip = .agg cs := rfl
theorem strip_tup (cs : List AV) : (AV.tup cs).strip = .tup cs := rfl
theorem strip_sl (s : Nat) (es : List (List AV)) (c : Option Nat) : (AV.sl s es c).strip = .sl s es c := rfl
theorem strip_own (b n h : Nat) (c : Option Nat) : (AV.own b n h c).strip = .own b n h c := rfl
theorem strip_ptr (b i o h : Nat) : (AV.ptr b i o h).strip = .ptr b i o h := rfl
theorem strip_iptr (cs : List AV) (o : Nat) : (AV.iptr cs o).strip = .iptr cs o := rfl
theorem strip_fn (f : FuncId) (cs : List AV) : (AV.fn f cs).strip = .fn f cs := rfl
theorem strip_mp (b : Nat) : (AV.mp b).strip = .mp b := rfl
theorem strip_yld (b : Nat) : (AV.yld b).strip = .yld b := rfl
theorem ok_yld (b : Nat) : (AV.yld b).ok = true := rfl
theorem strip_opt (g : Bool) (v : AV) : (AV.opt g v).strip = v := rfl
theorem strip_lit (v : Value) : (AV.lit v).strip = .lit v := rfl
theorem strip_top : AV.top.strip = .top := rfl
theorem ok_int (k : IntKind) (n : Int) : (AV.int k n).ok = true := rfl
theorem ok_bool (b : Bool) : (AV.bool b).ok = true := rfl
theorem ok_str (s : List UInt8) : (AV.str s).ok = true := rfl
theorem ok_agg (cs : List AV) : (AV.agg cs).ok = true := rfl
theorem ok_tup (cs : List AV) : (AV.tup cs).ok = true := rfl
theorem ok_sl (s : Nat) (es : List (List AV)) (c : Option Nat) : (AV.sl s es c).ok = true := rfl
theorem ok_own (b n h : Nat) (c : Option Nat) : (AV.own b n h c).ok = true := rfl
theorem ok_ptr (b i o h : Nat) : (AV.ptr b i o h).ok = true := rfl
theorem ok_iptr (cs : List AV) (o : Nat) : (AV.iptr cs o).ok = true := rfl
theorem ok_fn (f : FuncId) (cs : List AV) : (AV.fn f cs).ok = true := rfl
theorem ok_mp (b : Nat) : (AV.mp b).ok = true := rfl
theorem ok_opt (g : Bool) (v : AV) : (AV.opt g v).ok = g := rfl
theorem ok_lit (v : Value) : (AV.lit v).ok = true := rfl
theorem ok_top : AV.top.ok = true := rfl
theorem strip_anyb : AV.anyb.strip = .anyb := rfl
theorem ok_anyb : AV.anyb.ok = true := rfl
theorem strip_err : AV.err.strip = .err := rfl
theorem ok_err : AV.err.ok = true := rfl
theorem strip_anyi (k : IntKind) : (AV.anyi k).strip = .anyi k := rfl
theorem ok_anyi (k : IntKind) : (AV.anyi k).ok = true := rfl
theorem ofVal_int (k : IntKind) (n : Int) : ofVal (.int k n) = .int k n := rfl
theorem ofVal_bool (b : Bool) : ofVal (.bool b) = .bool b := rfl
theorem ofVal_str (s : ByteArray) : ofVal (.string s) = .str s.data.toList := rfl
theorem ofVal_nil : ofVal (.slice none 0 0) = .sl 0 [] (some 0) := rfl
theorem ite_bool (b p q : Bool) : AV.ite b (.bool p) (.bool q) = .bool (bif b then p else q) := rfl
theorem gOf_bool (b w : Bool) : gOf (.bool b) w = some (b == w) := rfl
theorem gOf_opt (g b w : Bool) : gOf (.opt g (.bool b)) w = some (g && (b == w)) := rfl
theorem gOf_undef (w : Bool) : gOf (.tup []) w = some false := rfl
def condK (G : Glob) (a : List AV) (c : Operand) (X Y : Prop) : Prop :=
 match (ev G a c).strip with
 | .bool b => (ev G a c).ok = true ∧ (b = true → X) ∧ (b = false → Y)
 | .anyb => (ev G a c).ok = true ∧ X ∧ Y
 | _ => False
theorem awp_if {c : Operand} {x y : Code} (h : condK G a c (AWp ρ P G n0 x Q a H) (AWp ρ P G n0 y Q a H)) : AWp ρ P G n0 (.cond c x y) Q a H := by
 unfold condK at h
 split at h
 ·rename_i b hb
  exact awp_cond hb h.1 h.2.1 h.2.2
 ·rename_i hb
  exact awp_any hb h.1 h.2.1 h.2.2
 ·exact h.elim
def scrub (m : Nat) (v : AV) : AV := if v.ids (fun b => decide (b < m)) = true then v else .top
def Blk.below (m : Nat) : Blk → Bool
 | .row _ _ es => idsE (fun b => decide (b < m)) es
 | .ob (.map _ _ es) => es.all fun p => p.1.ids (fun b => decide (b < m)) && p.2.ids (fun b => decide (b < m))
 | .ob (.loop _ as _) => idsL (fun b => decide (b < m)) as
theorem env_take {m : Nat} (S : St) (H : List Blk) : (S.env H).agree (fun b => decide (b < m)) (S.env (H.take m)) := ⟨fun k o q => q, fun b hb => by
  have hb' : b < m := by simpa using hb
  have hget : (H.take m)[b]? = H[b]? := by rw [List.getElem?_take, if_pos hb']
  exact ⟨by simp [St.env, shOf, hget], rfl, by simp [St.env, mpOf, hget]⟩⟩
theorem take_ok {m : Nat} {S : St} (hok : S.Ok H) (hm : n0 ≤ m) (hml : m ≤ H.length) (hb : (H.take m).all (Blk.below m) = true) : S.Ok (H.take m) ∧ Ext n0 S H S (H.take m) := by
 have hget : ∀ b, b < m → (H.take m)[b]? = H[b]? := fun b hb => by rw [List.getElem?_take, if_pos hb]
 have hnone : ∀ b, ¬ b < m → (H.take m)[b]? = none := fun b hb => by rw [List.getElem?_take, if_neg hb]
 have hag : (S.env H).agree (fun b => decide (b < m)) (S.env (H.take m)) := ⟨fun k o q => q, fun b hb => by
  have hb' : b < m := by simpa using hb
  exact ⟨by simp [St.env, shOf, hget b hb'], rfl, by simp [St.env, mpOf, hget b hb']⟩⟩
 have hat : ∀ b, b < m → S.at (H.take m) b = S.at H b := fun b hb => by simp only [St.at, hget b hb]
 have hatn : ∀ b g, S.at (H.take m) b = some g → b < m := fun b g q => by
  by_cases hb : b < m
  ·exact hb
  ·simp [St.at, hnone b hb] at q
 refine ⟨⟨hok.imm, fun b s t es hbb => ?_, fun b ob0 hbb => ?_, fun b b' g q q' => ?_⟩, ⟨rfl, rfl, rfl, Nat.le_refl _, fun _ _ _ => rfl, fun _ _ q => q, fun _ q => .inl q, fun k q => ?_, fun b s cur hb hs => ?_, fun b g hb hg => ?_, fun _ => by simp; omega⟩⟩
 ·have hlt : b < m := by
   rcases Nat.lt_or_ge b m with q|q
   ·exact q
   ·rw [hnone b (by omega)] at hbb; cases hbb
  have hbel := List.all_eq_true.1 hb _ (List.mem_of_getElem? hbb)
  rw [hget b hlt] at hbb
  rcases hok.row b s t es hbb with q|⟨g, k, cs, h1, h2, h3, h4, h5, h6, h7⟩
  ·exact .inl q
  ·refine .inr ⟨g, k, cs, h1, h2, h3, h4, h5, h6, fun i e hi => ?_⟩
   obtain ⟨l1, l2⟩ := h7 i e hi
   refine ⟨l1, fun j x hj => ?_⟩
   obtain ⟨v, hv, ho, hr⟩ := l2 j x hj
   simp only [Blk.below] at hbel
   have h8 := (idsL_iff e).1 ((idsE_iff es).1 hbel e (List.mem_of_getElem? hi)) x (List.mem_of_getElem? hj)
   exact ⟨v, hv, ho, Rel.move hag x v h8 hr⟩
 ·have hlt : b < m := by
   rcases Nat.lt_or_ge b m with q|q
   ·exact q
   ·rw [hnone b (by omega)] at hbb; cases hbb
  have hbel := List.all_eq_true.1 hb _ (List.mem_of_getElem? hbb)
  rw [hget b hlt] at hbb
  obtain ⟨g, ob1, h1, h2, h3, h4⟩ := hok.ob b ob0 hbb
  refine ⟨g, ob1, h1, h2, h3, ?_⟩
  cases ob0 with
  | map kt vt es =>
   obtain ⟨ents, clock, e0, e1, h5⟩ := h4
   refine ⟨ents, clock, e0, e1, fun i p hi => ?_⟩
   obtain ⟨e, he, r1, r2⟩ := h5 i p hi
   simp only [Blk.below, List.all_eq_true, Bool.and_eq_true] at hbel
   have h8 := hbel p (List.mem_of_getElem? hi)
   exact ⟨e, he, Rel.move hag _ _ h8.1 r1, Rel.move hag _ _ h8.2 r2⟩
  | loop o as vs => exact ⟨h4.1, RelL.move hag _ _ hbel h4.2⟩
 ·have q1 := hatn b g q
  have q2 := hatn b' g q'
  rw [hat b q1] at q; rw [hat b' q2] at q'
  exact hok.inj b b' g q q'
 ·obtain ⟨b, hb'⟩ := q
  have := hatn b k hb'
  rw [hat b this] at hb'
  exact .inl ⟨b, hb'⟩
 ·exact ⟨cur, Nat.le_refl _, by simpa [shOf, hget b (by omega)] using hs, fun _ => rfl⟩
 ·simpa [mpOf, hget b (by omega)] using hg
theorem weak_take {m : Nat} (hm : n0 ≤ m) (hml : m ≤ H.length) (hb : (H.take m).all (Blk.below m) = true) : Weak n0 a H (a.map (scrub m)) (H.take m) := fun S vs hok hn ha => by
 obtain ⟨h1, h2⟩ := take_ok hok hm hml hb
 have hag := env_take (m := m) S H
 refine ⟨S, rfl, h1, h2, ?_⟩
 ·refine RelL.mk (by simpa using ha.length) fun i x v hx hv => ?_
  rw [List.getElem?_map] at hx
  cases hy : a[i]? with
  | none => rw [hy] at hx; cases hx
  | some y =>
   rw [hy] at hx
   simp only [Option.map_some, Option.some.injEq] at hx
   subst hx
   obtain ⟨v', hv', hr⟩ := ha.get hy
   rw [hv] at hv'; injection hv' with hv'; subst hv'
   unfold scrub
   split
   ·rename_i hi; exact Rel.move hag y v hi hr
   ·simp [Rel]
end
end Go.V
