import Derived.Test.YtcoakjnmnommpaaGreatDoorV34
set_option linter.unusedVariables false
set_option linter.unusedSimpArgs false
set_option autoImplicit false
namespace Go.V
open Go Go.RowKit
section
variable {P : Program} {G : Glob} {q : Operand → Bool}
def topB : AV → Option Nat
 | .ptr b _ _ _ => some b
 | .own b _ _ _ => some b
 | .mp b => some b
 | _ => none
def apB (v w : AV) : Bool := match topB v.strip, topB w.strip with
 | some b, some b' => b != b'
 | _, _ => true
def rdOp : Op → Option Nat
 | .load _ (.tmp x) => some x
 | .fieldAddr _ (.tmp x) _ => some x
 | .indexAddr _ (.tmp x) _ => some x
 | .slice _ (.tmp x) _ _ _ => some x
 | .buildSlice _ _ parts => match parts.toList with|[(_, .tmp x)] => some x|_ => none
 | _ => none
def wZ0 : Op → Option (Option Nat)
 | .store _ (.tmp y) _ => some (some y)
 | .makeSlice _ _ _ => some none
 | .call { callee := .builtin .append, args, argTypes } => match args.toList with|[.tmp y, _] => some (some y)|_ => none
 | .call { callee := .value _, .. } => some none
 | .alloc _ => some none
 | _ => none
def qbW9 (N : Nat → Prop) (H H' : List Blk) : Prop := ∀ b B, N b → H[b]? = some B → H'[b]? = some B
theorem kO0 {H H2 : List Blk} {b h : Nat} (hl : kj0 H b h = true) (hk : ∀ B, H[b]? = some B → H2[b]? = some B) : kj0 H2 b h = true := by
 unfold kj0 shOf at *
 cases hb : H[b]? with
 | none => simp [hb] at hl
 | some B => rw [hk B hb]; rw [hb] at hl; exact hl
section
variable {H H2 : List Blk} {v : AV}
theorem zbW9 {t : TypeId} (h : (zR0 P H t v).1 = true) (hk : ∀ b B, topB v = some b → H[b]? = some B → H2[b]? = some B) : zR0 P H2 t v = zR0 P H t v := by
 unfold zR0 at *
 cases hT : qc0 P t with
 | none => rfl
 | some T =>
  rw [hT] at h
  cases v <;> try rfl
  rename_i b i o hh
  simp only at h ⊢
  cases hb : H[b]? with
  | none => simp [hb, bad] at h
  | some B => rw [hk b B rfl hb]
theorem xay9 {s : TypeId} {f : Nat} (h : (vo0 P H s v f).1 = true) (hk : ∀ b B, topB v = some b → H[b]? = some B → H2[b]? = some B) : vo0 P H2 s v f = vo0 P H s v f := by
 unfold vo0 at *
 cases hF : qL0 P s f with
 | none => rfl
 | some oF =>
  rw [hF] at h
  obtain ⟨off, F⟩ := oF
  cases v <;> try rfl
  rename_i b i o hh
  simp only [Bool.and_eq_true] at h ⊢
  rw [h.1, kO0 h.1 fun B hB => hk b B rfl hB]
theorem way9 {t : TypeId} {w : AV} (h : (ko0 P H t v w).1 = true) (hk : ∀ b B, topB v = some b → H[b]? = some B → H2[b]? = some B) : ko0 P H2 t v w = ko0 P H t v w := by
 unfold ko0 at *
 cases w <;> try rfl
 cases hs : shp P t <;> simp only [hs] at h ⊢
 ·rename_i e
  cases hT : qc0 P e with
  | none => rfl
  | some T =>
   rw [hT] at h
   cases v <;> try rfl
   rename_i b m hh c
   simp only at h ⊢
   unfold shOf at *
   cases hb : H[b]? with
   | none => simp [hb, bad] at h
   | some B => rw [hk b B rfl hb]
 ·rename_i e
  cases hT : qc0 P e with
  | none => rfl
  | some T =>
   rw [hT] at h
   cases v <;> try rfl
   rename_i b i o hh
   simp only [Bool.and_eq_true] at h ⊢
   rw [h.1.1, kO0 h.1.1 fun B hB => hk b B rfl hB]
theorem kbu9 {t : TypeId} {lo hi mx : Option AV} (h : (wK0 P H t v lo hi mx).1 = true) (hk : ∀ b B, topB v = some b → H[b]? = some B → H2[b]? = some B) : wK0 P H2 t v lo hi mx = wK0 P H t v lo hi mx := by
 cases v with
 | own b n h0 c =>
  have key : kj0 H b h0 = true → kj0 H2 b h0 = true := fun hl => kO0 hl fun B hB => hk b B rfl hB
  unfold wK0 at *
  cases hlo : wbb9 lo with
  | none => rfl
  | some l =>
   simp only [hlo] at h ⊢
   cases hs : shp P t <;> simp only [hs] at h ⊢
   rename_i e
   cases hT : qc0 P e with
   | none => rfl
   | some T =>
    simp only [hT] at h ⊢
    cases hh : kR0 hi n with
    | none => rfl
    | some x =>
     simp only [hh] at h ⊢
     cases mx with
     | none =>
      simp only [Bool.and_eq_true] at h ⊢
      rw [h.1.1.1, key h.1.1.1]
     | some y =>
      cases y <;> try rfl
      simp only [Bool.and_eq_true] at h ⊢
      rw [h.1.1.1.1.2, key h.1.1.1.1.2]
 | iptr cs o =>
  unfold wK0
  cases wbb9 lo with
  | none => rfl
  | some l => cases shp P t <;> cases o <;> rfl
 | _ =>
  unfold wK0
  cases wbb9 lo with
  | none => rfl
  | some l => cases shp P t <;> rfl
end
theorem xbW9 {H H2 : List Blk} {v : AV} {cs : List AV} (h : v.cells? H = some cs) (hk : ∀ b B, topB v = some b → H[b]? = some B → H2[b]? = some B) : v.cells? H2 = some cs := by
 have key : ∀ {b n : Nat}, topB v = some b → kj0 H b n = true → kj0 H2 b n = true := fun hb hl => kO0 hl fun B hB => hk _ B hb hB
 cases v with
 | own b n hh c =>
  simp only [AV.cells?] at h ⊢
  by_cases hl : (AV.own b n hh c).live H = true
  ·rw [if_pos hl] at h; rw [if_pos (show (AV.own b n hh c).live H2 = true from key rfl hl)]; exact h
  ·rw [if_neg hl] at h; cases h
 | ptr b i o hh =>
  simp only [AV.cells?] at h ⊢
  by_cases hl : (AV.ptr b i o hh).live H = true
  ·rw [if_pos hl] at h; rw [if_pos (show (AV.ptr b i o hh).live H2 = true from key rfl hl)]; exact h
  ·rw [if_neg hl] at h; cases h
 | lit u => cases u <;> exact h
 | _ => exact h
theorem zao9 {H H2 : List Blk} {t : TypeId} {len i : Nat} {v : AV} (h : (wl0 P H t len [(i, v)]).1 = true) (hk : ∀ b B, topB v = some b → H[b]? = some B → H2[b]? = some B) : wl0 P H2 t len [(i, v)] = wl0 P H t len [(i, v)] := by
 unfold wl0 at *
 split at h
 ·split at h
  ·rename_i E hE
   cases hc : v.cells? H with
   | none => simp only [xT0, hc] at h; cases h
   | some cs => simp only [xT0, hc, xbW9 hc hk]
  ·rfl
 ·rfl
theorem wbW9 {o : Op} {x : Nat} {ρ : Operand → AV} {H H2 : List Blk} (ho : rdOp o = some x) (h : (ze0 P o ρ H).1 = true) (hk : ∀ b B, topB (ρ (.tmp x)).strip = some b → H[b]? = some B → H2[b]? = some B) : ze0 P o ρ H2 = ze0 P o ρ H := by
 cases o with
 | load t p =>
  cases p <;> simp only [rdOp, Option.some.injEq, reduceCtorEq] at ho
  subst ho
  simp only [ze0, Bool.and_eq_true] at h ⊢
  rw [zbW9 h.2 hk]
 | fieldAddr s p f =>
  cases p <;> simp only [rdOp, Option.some.injEq, reduceCtorEq] at ho
  subst ho
  simp only [ze0, Bool.and_eq_true] at h ⊢
  rw [xay9 h.2 hk]
 | indexAddr t p i =>
  cases p <;> simp only [rdOp, Option.some.injEq, reduceCtorEq] at ho
  subst ho
  simp only [ze0, Bool.and_eq_true] at h ⊢
  rw [way9 h.2.2 hk]
 | slice t p lo hi mx =>
  cases p <;> simp only [rdOp, Option.some.injEq, reduceCtorEq] at ho
  subst ho
  simp only [ze0, Bool.and_eq_true] at h ⊢
  rw [kbu9 h.2 hk]
 | buildSlice t len parts =>
  simp only [rdOp] at ho
  split at ho
  ·rename_i i x' hp
   injection ho with ho; subst ho
   simp only [ze0, hp, List.map_cons, List.map_nil, Bool.and_eq_true] at h ⊢
   rw [zao9 h.2 hk]
  ·cases ho
 | _ => simp [rdOp] at ho
theorem waq9 {H : List Blk} {b b' : Nat} {B X : Blk} (hne : b' ≠ b) (h : H[b']? = some B) : (H.set b X)[b']? = some B := by rw [List.getElem?_set_ne (Ne.symm hne)]; exact h
theorem vZ0 {H : List Blk} {b' : Nat} {B X : Blk} (h : H[b']? = some B) : (H ++ [X])[b']? = some B := by
 rw [List.getElem?_append_left (List.getElem?_eq_some_iff.1 h).1]; exact h
theorem qbv9 {H : List Blk} {t : TypeId} {p x : AV} {b' : Nat} {B : Blk} (h : (kX0 P H t p x).1 = true) (hne : topB p ≠ some b') (hb : H[b']? = some B) : (kX0 P H t p x).2.2[b']? = some B := by
 unfold kX0 at *
 split at h
 ·rename_i T b i o hh cs h1 h2
  split at h
  ·rename_i s bt es h3
   exact waq9 (fun e => hne (by rw [e]; rfl)) hb
  ·cases h
 ·cases h
theorem vbW9 {H : List Blk} {t : TypeId} {l c : AV} {b' : Nat} {B : Blk} (h : (xaG9 P H t l c).1 = true) (hb : H[b']? = some B) : (xaG9 P H t l c).2.2[b']? = some B := by
 unfold xaG9 at *
 split at h
 ·split at h
  ·exact vZ0 hb
  ·cases h
 ·cases h
theorem kbh9 {H : List Blk} {t t1 : TypeId} {d x : AV} {b' : Nat} {B : Blk} (h : (wt0 P H t t1 d x).1 = true) (hne : topB d ≠ some b') (hb : H[b']? = some B) : (wt0 P H t t1 d x).2.2[b']? = some B := by
 unfold wt0 at *
 split at h
 ·rename_i e hsh
  split at h
  ·rename_i E hE
   split at h
   ·rename_i news hn
    split at h
    ·rename_i b n hh c
     split at h
     ·rename_i s bt es h3
      have hx : b' ≠ b := fun e => hne (by rw [e]; rfl)
      cases c with
      | none => exact waq9 hx hb
      | some k =>
       simp only
       split
       ·exact waq9 hx hb
       ·exact vZ0 hb
     ·cases h
    ·rename_i s es c
     cases news with
     | nil => exact hb
     | cons y ys =>
      cases c with
      | none => cases h
      | some k => exact vZ0 hb
    ·cases h
   ·cases h
  ·cases h
 ·cases h
theorem qbi9 {H : List Blk} {t t1 : TypeId} {d x : AV} {b' : Nat} {B : Blk} (h : (wt0 P H t t1 d x).1 = true) (hne : topB d ≠ some b') (hnr : topB (wt0 P H t t1 d x).2.1 ≠ some b') (hb : (wt0 P H t t1 d x).2.2[b']? = some B) : H[b']? = some B := by
 have hset : ∀ (b : Nat) (X : Blk), b' ≠ b → (H.set b X)[b']? = some B → H[b']? = some B := fun b X hn hx => by rwa [List.getElem?_set_ne (Ne.symm hn)] at hx
 have hpush : ∀ X : Blk, b' ≠ H.length → (H ++ [X])[b']? = some B → H[b']? = some B := fun X hn hx => by
  have hl := (List.getElem?_eq_some_iff.1 hx).1
  rw [List.length_append, List.length_singleton] at hl
  rwa [List.getElem?_append_left (by omega)] at hx
 unfold wt0 at *
 split at h
 ·rename_i e hsh
  split at h
  ·rename_i E hE
   split at h
   ·rename_i news hn
    split at h
    ·rename_i b n hh c
     split at h
     ·rename_i s bt es h3
      have hx : b' ≠ b := fun e => hne (by rw [e]; rfl)
      cases c with
      | none => simp only [hsh, hE, hn, h3] at hb; exact hset _ _ hx hb
      | some k =>
       simp only [hsh, hE, hn, h3] at hb hnr
       split at hb
       ·exact hset _ _ hx hb
       ·rename_i hk
        rw [if_neg hk] at hnr
        exact hpush _ (fun e => hnr (by rw [e]; rfl)) hb
     ·cases h
    ·rename_i s es c
     cases news with
     | nil => simp only [hsh, hE, hn] at hb; exact hb
     | cons y ys =>
      cases c with
      | none => cases h
      | some k =>
       simp only [hsh, hE, hn] at hb hnr
       exact hpush _ (fun e => hnr (by rw [e]; rfl)) hb
    ·cases h
   ·cases h
  ·cases h
 ·cases h
theorem zbv9 {H : List Blk} {t : TypeId} {b' : Nat} {B : Blk} (h : (xS0 P H t).1 = true) (hb : H[b']? = some B) : (xS0 P H t).2.2[b']? = some B := by
 unfold xS0 at *
 split at h
 ·exact vZ0 hb
 ·cases h
theorem kbW9 {o : Op} {y : Option Nat} {ρ : Operand → AV} {H : List Blk} {b' : Nat} {B : Blk} (ho : wZ0 o = some y) (h : (wf0 P o ρ H).1 = true) (hne : ∀ t, y = some t → topB (ρ (.tmp t)).strip ≠ some b') (hb : H[b']? = some B) : (wf0 P o ρ H).2.2[b']? = some B := by
 unfold wZ0 at ho
 split at ho
 ·injection ho with ho; subst ho
  simp only [wf0, Bool.and_eq_true] at h ⊢
  exact qbv9 h.2.2 (hne _ rfl) hb
 ·injection ho with ho; subst ho
  simp only [wf0, Bool.and_eq_true] at h ⊢
  exact vbW9 h.2.2 hb
 ·rename_i args argTypes
  split at ho
  ·rename_i t x ha
   injection ho with ho; subst ho
   simp only [wf0, ha] at h ⊢
   split at h
   ·rename_i d x' t1 t2 e1 e2
    injection e1 with e1 e3; injection e3 with e3 _
    subst e1; subst e3
    simp only [e2, Bool.and_eq_true] at h ⊢
    exact kbh9 h.2.2 (hne _ rfl) hb
   ·cases h
  ·cases ho
 ·simp [wf0, bad3] at h
 ·injection ho with ho; subst ho
  simp only [wf0] at h ⊢
  exact zbv9 h hb
 ·cases ho
def xV0 : Op → Bool
 | .call { callee := .builtin .append, .. } => true
 | _ => false
theorem zbF9 {o : Op} (h : isMk o = true) : xV0 o = false := by
 cases o <;> first|rfl|(simp [isMk] at h)
theorem wcp9 {o : Op} {y : Option Nat} (ha : xV0 o = true) (h : wZ0 o = some y) : ∃ t, y = some t := by
 unfold wZ0 at h
 split at h
 ·simp [xV0] at ha
 ·simp [xV0] at ha
 ·split at h
  ·injection h with h; exact ⟨_, h.symm⟩
  ·cases h
 ·simp [xV0] at ha
 ·simp [xV0] at ha
 ·cases h
theorem qbX9 {o : Op} {y : Nat} {ρ : Operand → AV} {H : List Blk} {b' : Nat} {B : Blk} (ha : xV0 o = true) (ho : wZ0 o = some (some y)) (h : (wf0 P o ρ H).1 = true) (hne : topB (ρ (.tmp y)).strip ≠ some b') (hnr : topB (wf0 P o ρ H).2.1.strip ≠ some b') (hb : (wf0 P o ρ H).2.2[b']? = some B) : H[b']? = some B := by
 unfold wZ0 at ho
 split at ho
 ·simp [xV0] at ha
 ·simp [xV0] at ha
 ·rename_i args argTypes
  split at ho
  ·rename_i t x hargs
   injection ho with ho; injection ho with ho; subst ho
   simp only [wf0, hargs] at h hb hnr
   split at h
   ·rename_i d x' t1 t2 e1 e2
    injection e1 with e1 e3; injection e3 with e3 _
    subst e1; subst e3
    simp only [e2, Bool.and_eq_true] at h hb hnr
    have key : ∀ v : AV, topB v = some b' → topB v.strip = some b' := fun v hv => by
     cases v <;> first|exact hv|(simp [topB] at hv)
    exact qbi9 h.2.2 hne (fun q => hnr (key _ q)) hb
   ·cases h
  ·cases ho
 ·simp [xV0] at ha
 ·simp [xV0] at ha
 ·cases ho
def kcR9 (o : Oper) : Nat := match o.dst with
 | some d => d
 | none => match o.op with|.store _ (.tmp y) _ => y|_ => 0
def xao9 (rs : List (Nat × Nat)) (o : Oper) : Bool := match o.dst, o.guard, rdOp o.op with
 | some d, none, some x => rs.contains (d, x)
 | _, _, _ => false
def kZ0 (es : List (Nat × Option Nat)) (o : Oper) : Bool := match wZ0 o.op with
 | some y => es.contains (kcR9 o, y) && o.guard.isNone
 | none => false
def xbv9 (es : List (Nat × Option Nat)) (o : Oper) : Bool := kZ0 es o && xV0 o.op && (match o.dst with|some d => es.any fun y => y.2 == some d|none => false)
def eFlagM (es : List (Nat × Option Nat)) (o : Oper) : Bool := isMk o.op && o.guard.isNone && (match o.dst with|some d => es.contains (d, some d)|none => false)
theorem wbv9 {es : List (Nat × Option Nat)} {o : Oper} (h : eFlagM es o = true) : ∃ d, isMk o.op = true ∧ o.guard = none ∧ o.dst = some d ∧ (d, some d) ∈ es := by
 unfold eFlagM at h
 simp only [Bool.and_eq_true, Option.isNone_iff_eq_none] at h
 obtain ⟨⟨h1, h2⟩, h3⟩ := h
 split at h3
 ·rename_i d hd; exact ⟨d, h1, h2, hd, by simpa using h3⟩
 ·cases h3
theorem vcp9 {N : Nat → Prop} {o : Op} {ρ : Operand → AV} {H H' : List Blk} {b : Nat} {r : AV} (h : MkAt P o ρ H b r H') (hk : qbW9 N H H') : ¬ N b := fun hn => by
 unfold MkAt at h
 cases o with
 | makeSlice t l c =>
  simp only [zF0, Bool.and_eq_true] at h
  obtain ⟨⟨_, h2⟩, _, h4⟩ := h
  obtain ⟨s, e, es, n, cc, q1, q2, q3, _⟩ := xv0 h2
  rw [q3] at h4
  have := hk b _ hn q1
  rw [h4, List.getElem?_set_self (List.getElem?_eq_some_iff.1 q1).1] at this
  injection this with this; injection this with _ _ this
  exact q2 this
 | _ => exact absurd h.1 (by simp [zF0, bad3])
theorem zah9 {N : Nat → Prop} {o : Op} {ρ : Operand → AV} {H H' : List Blk} {b : Nat} {r : AV} (h : MkAt P o ρ H b r H') (hn : ¬ N b) : qbW9 N H H' := fun b' B hb hB => by
 unfold MkAt at h
 cases o with
 | makeSlice t l c =>
  simp only [zF0, Bool.and_eq_true] at h
  obtain ⟨⟨_, h2⟩, _, h4⟩ := h
  obtain ⟨s, e, es, n, cc, q1, q2, q3, _⟩ := xv0 h2
  rw [q3] at h4
  rw [h4]
  exact waq9 (fun e => hn (by rw [← e]; exact hb)) hB
 | _ => exact absurd h.1 (by simp [zF0, bad3])
theorem qcS9 {o : Op} {ρ : Operand → AV} {H H' : List Blk} {b : Nat} {r : AV} (h : MkAt P o ρ H b r H') : topB r.strip = some b := by
 unfold MkAt at h
 cases o with
 | makeSlice t l c =>
  simp only [zF0, Bool.and_eq_true] at h
  obtain ⟨⟨_, h2⟩, h3, _⟩ := h
  obtain ⟨s, e, es, n, cc, q1, q2, q3, _⟩ := xv0 h2
  rw [h3, q3]; rfl
 | _ => exact absurd h.1 (by simp [zF0, bad3])
theorem xbF9 {ops : List Oper} {o : Oper} {a : List AV} {v : AV} {d : Option Tmp} (h : ∀ t, d = some t → t ∉ o.looksAt ops.toArray) {x : Operand} (hx : x ∈ o.op.operands) : ev G (putA a d v) x = ev G a x := zch9 fun t ht hxt => h t ht (by
  subst hxt
  exact List.mem_append_left _ (List.mem_filterMap.2 ⟨.tmp t, by simpa using hx, rfl⟩))
theorem qaa9 {o : Oper} (h : mFlag q o = true) : effD q o.op = true ∧ isMk o.op = true ∧ o.guard = none ∧ xC0 o.op = false ∧ rdOp o.op = none := by
 simp only [mFlag, Bool.and_eq_true, Bool.not_eq_true', Option.isNone_iff_eq_none] at h
 obtain ⟨⟨⟨h1, h2⟩, h3⟩, h4⟩ := h
 cases ho : o.op <;> rw [ho] at h3 <;> first|(exact Bool.noConfusion h3)|skip
 exact ⟨by simp [effD, vB0, h1], h3, h4, rfl, rfl⟩
theorem qP0 {rs : List (Nat × Nat)} {o : Oper} (h : xao9 rs o = true) : ∃ d x, o.dst = some d ∧ o.guard = none ∧ rdOp o.op = some x ∧ (d, x) ∈ rs := by
 unfold xao9 at h
 split at h
 ·rename_i d x h1 h2 h3; exact ⟨d, x, h1, h2, h3, by simpa using h⟩
 ·cases h
theorem qaL9 {es : List (Nat × Option Nat)} {o : Oper} (h : kZ0 es o = true) : ∃ y, wZ0 o.op = some y ∧ o.guard = none ∧ (kcR9 o, y) ∈ es := by
 unfold kZ0 at h
 split at h
 ·rename_i y h1
  simp only [Bool.and_eq_true, Option.isNone_iff_eq_none] at h
  exact ⟨y, h1, h.2, by simpa using h.1⟩
 ·cases h
theorem zaa9 {o : Op} {x : Nat} (h : rdOp o = some x) : effD q o = false := by
 cases o <;> first|(simp [rdOp] at h; done)|rfl
theorem kcp9 {o : Op} {x : Nat} (h : rdOp o = some x) : isMk o = false := by
 cases o <;> first|(simp [rdOp] at h; done)|rfl
theorem zcS9 {o : Op} {x : Nat} (h : rdOp o = some x) : vB0 o = false := by
 cases o <;> first|(simp [rdOp] at h; done)|rfl
section
variable {ops : List Oper} {md : Region.Mode} {rs : List (Nat × Nat)} {es : List (Nat × Option Nat)} {N : Nat → Prop} {K : List AV → List Blk → Prop}
def vbv9 (q : Operand → Bool) (o : Oper) : Bool := pcF q && isVC o.op && o.guard.isNone && !effD q o.op
theorem xah9 {o : Oper} (h : vbv9 q o = true) : pcF q = true ∧ isVC o.op = true ∧ o.guard = none ∧ effD q o.op = false := by
 simp only [vbv9, Bool.and_eq_true, Option.isNone_iff_eq_none, Bool.not_eq_true'] at h
 exact ⟨h.1.1.1, h.1.1.2, h.1.2, h.2⟩
def zbi9 (P : Program) (G : Glob) (q : Operand → Bool) (ops : List Oper) (rs : List (Nat × Nat)) (es : List (Nat × Option Nat)) (N : Nat → Prop) (o : Oper) (a : List AV) (H : List Blk) (r : AV) (H' : List Blk) : Prop :=
 wbd9 P G q ops o a H r H' ∧ (xao9 rs o = true → ∀ H2, qbW9 N H H2 → kn0 P G ops o a H2 r H2) ∧ ((kZ0 es o || eFlagM es o) = true → qbW9 N H H') ∧ (mFlag q o = true → ∃ b, MkAt P o.op (ev G a) H b r H') ∧ (xbv9 es o = true → qbW9 N H' H) ∧ (vbv9 q o = true → ∀ H2, kn0 P G ops o a H2 r H2)
def qcq9 (P : Program) (G : Glob) (q : Operand → Bool) (ops : List Oper) (rs : List (Nat × Nat)) (es : List (Nat × Option Nat)) (N : Nat → Prop) (md : Region.Mode) (K : List AV → List Blk → Prop) : Nat → Array Bool → List AV → List Blk → Prop
 | 0, listed, a, H => Region.ready md ops.toArray listed = [] ∧ K a H
 | fuel + 1, listed, a, H => (Region.ready md ops.toArray listed = [] → K a H) ∧
   ∀ i ∈ Region.ready md ops.toArray listed, ∃ o, ops[i]? = some o ∧ ∃ r H', zbi9 P G q ops rs es N o a H r H' ∧ qcq9 P G q ops rs es N md K fuel (listed.setIfInBounds i true) (putA a o.dst r) H'
theorem zaL9 : ∀ (fuel : Nat) (listed : Array Bool) (a : List AV) (H : List Blk), qcq9 P G q ops rs es N md K fuel listed a H → AAny P G q ops md K fuel listed a H
 | 0, _, _, _, h => h
 | fuel + 1, _, _, _, h => ⟨h.1, fun i hi => by
  obtain ⟨o, ho, r, H', hs, hA⟩ := h.2 i hi
  exact ⟨o, ho, r, H', hs.1, zaL9 fuel _ _ _ hA⟩⟩
theorem kbv9 {i : Nat} {oi : Oper} {r : AV} {T : Nat} (hT : zag9 md ops T) (hi256 : i < 256) (hi : ops[i]? = some oi) :
  ∀ (fuel : Nat) (listed : Array Bool) (a : List AV) (H H' : List Blk), wS0 md ops listed →
   (∀ j oj, ops[j]? = some oj → j ≠ i → listed.getD j true = false → T.testBit (j * 256 + i) = true ∨ ((xbs9 q oi.op oj.op = true ∨ (xao9 rs oi = true ∧ (kZ0 es oj || eFlagM es oj) = true) ∨ (mFlag q oi = true ∧ mFlag q oj = true) ∨ (xbv9 es oi = true ∧ xao9 rs oj = true) ∨ vbv9 q oi = true ∨ vbv9 q oj = true) ∧ oi.apart ops.toArray oj = true)) →
   i ∈ Region.ready md ops.toArray listed → zbi9 P G q ops rs es N oi a H r H' → qcq9 P G q ops rs es N md K fuel (listed.setIfInBounds i true) (putA a oi.dst r) H' → qcq9 P G q ops rs es N md K (fuel + 1) listed a H := by
 intro fuel
 induction fuel with
 | zero =>
  intro listed a H H' hc hfree hr hs hA
  refine ⟨fun h => (by rw [h] at hr; cases hr), fun j hj => ?_⟩
  by_cases hji : j = i
  ·subst hji; exact ⟨oi, hi, r, H', hs, hA⟩
  ·have := ready_mono hj hji
   rw [hA.1] at this
   cases this
 | succ fuel ih =>
  intro listed a H H' hc hfree hr hs hA
  refine ⟨fun h => (by rw [h] at hr; cases hr), fun j hj => ?_⟩
  by_cases hji : j = i
  ·subst hji; exact ⟨oi, hi, r, H', hs, hA⟩
  ·obtain ⟨hjun, oj', hoj', hall⟩ := mem_ready.1 hj
   have hoj : ops[j]? = some oj' := by simpa using hoj'
   rcases hfree j oj' hoj hji hjun with hre|⟨hsw, hap⟩
   ·exact absurd (kav9 hT hc hi256 hj hre) (qaK9 (mem_ready.1 hr).1)
   ·obtain ⟨oj, hoj2, rj, Hj, hsj, hAj⟩ := hA.2 j (ready_mono hj hji)
    rw [hoj] at hoj2; injection hoj2 with hoj2; subst hoj2
    obtain ⟨a1, a2, a3⟩ := Oper.apart_spec hap
    obtain ⟨⟨s1, s2⟩, s3, s4, s5, s6, s7⟩ := hs
    obtain ⟨⟨t1, t2⟩, t3, t4, t5, t6, t7⟩ := hsj
    have noE : ∀ {o : Oper} {C : Prop}, effD q o.op = false → mFlag q o = true → C := fun {o} {C} e f => by rw [(qaa9 f).1] at e; cases e
    have noH : ∀ {o : Oper} {C : Prop}, xC0 o.op = true → mFlag q o = true → C := fun {o} {C} e f => by rw [(qaa9 f).2.2.2.1] at e; cases e
    have cgj : ∀ {Hx Hy : List Blk} {b : Nat}, MkAt P oj'.op (ev G (putA a oi.dst r)) Hx b rj Hy → MkAt P oj'.op (ev G a) Hx b rj Hy := fun h => vaf9 (fun x hx => xbF9 a1 hx) h
    have cgi : ∀ {Hx Hy : List Blk} {b : Nat}, MkAt P oi.op (ev G a) Hx b r Hy → MkAt P oi.op (ev G (putA a oj'.dst rj)) Hx b r Hy := fun h => vaf9 (fun x hx => (xbF9 a3 hx).symm) h
    have hid : ∀ H : List Blk, qbW9 N H H := fun H b B _ h => h
    have key : ∃ Hm, zbi9 P G q ops rs es N oj' a H rj Hm ∧ zbi9 P G q ops rs es N oi (putA a oj'.dst rj) Hm r Hj := by
     rcases hsw with hsw|⟨hfr, hfe⟩|⟨hm1, hm2⟩|⟨hbe, hbr⟩|hci|hcj
     ·simp only [xbs9, Bool.or_eq_true, Bool.and_eq_true, Bool.not_eq_true'] at hsw
      rcases hsw with (⟨p1, p2⟩|hp)|hp
      ·have e1 : H' = H := s2 p1
       subst e1
       have e2 : Hj = H' := t2 p2
       subst e2
       exact ⟨Hj, ⟨⟨(vb0 a1).1 t1, fun _ => rfl⟩, fun h H2 k => (vb0 a1).1 (t3 h H2 k), fun _ => hid _, noE p2, fun _ => hid _, fun h H2 => (vb0 a1).1 (t7 h H2)⟩, ⟨⟨(vb0 a3).2 s1, fun _ => rfl⟩, fun h H2 k => (vb0 a3).2 (s3 h H2 k), fun _ => hid _, noE p1, fun _ => hid _, fun h H2 => (vb0 a3).2 (s7 h H2)⟩⟩
      ·obtain ⟨e1, qq⟩ := ku0 hp s1
       subst e1
       exact ⟨Hj, ⟨⟨(vb0 a1).1 t1, t2⟩, fun h H2 k => (vb0 a1).1 (t3 h H2 k), t4, fun h => (t5 h).imp fun _ w => cgj w, t6, fun h H2 => (vb0 a1).1 (t7 h H2)⟩, ⟨⟨(vb0 a3).2 (qq Hj), fun _ => rfl⟩, fun h H2 k => (vb0 a3).2 (qq H2), fun _ => hid _, noH hp, fun _ => hid _, fun h H2 => (vb0 a3).2 (s7 h H2)⟩⟩
      ·obtain ⟨e1, qq⟩ := ku0 hp t1
       subst e1
       exact ⟨H, ⟨⟨(vb0 a1).1 (qq H), fun _ => rfl⟩, fun h H2 k => (vb0 a1).1 (qq H2), fun _ => hid _, noH hp, fun _ => hid _, fun h H2 => (vb0 a1).1 (t7 h H2)⟩, ⟨⟨(vb0 a3).2 s1, s2⟩, fun h H2 k => (vb0 a3).2 (s3 h H2 k), s4, fun h => (s5 h).imp fun _ w => cgi w, s6, fun h H2 => (vb0 a3).2 (s7 h H2)⟩⟩
     ·obtain ⟨d, x, f1, f2, f3, f4⟩ := qP0 hfr
      have e1 : H' = H := s2 (zaa9 f3)
      subst e1
      have hk := t4 hfe
      exact ⟨Hj, ⟨⟨(vb0 a1).1 t1, t2⟩, fun h H2 k => (vb0 a1).1 (t3 h H2 k), t4, fun h => (t5 h).imp fun _ w => cgj w, t6, fun h H2 => (vb0 a1).1 (t7 h H2)⟩, ⟨⟨(vb0 a3).2 (s3 hfr Hj hk), fun _ => rfl⟩, fun h H2 k => (vb0 a3).2 (s3 hfr H2 fun b B hb hB => k b B hb (hk b B hb hB)), fun _ => hid _, noE (zaa9 f3), fun _ => hid _, fun h H2 => (vb0 a3).2 (s7 h H2)⟩⟩
     ·obtain ⟨b1, w1⟩ := s5 hm1
      obtain ⟨b2, w2⟩ := t5 hm2
      obtain ⟨Hm, z2, z1⟩ := kcg9 w1 (cgj w2)
      have z1' := cgi z1
      obtain ⟨i1, i2, i3, i4, i5⟩ := qaa9 hm1
      obtain ⟨j1, j2, j3, j4, j5⟩ := qaa9 hm2
      have st1 : ∀ {o : Oper} {ax : List AV} {Hx Hy : List Blk} {b : Nat} {rx : AV}, isMk o.op = true → o.guard = none → MkAt P o.op (ev G ax) Hx b rx Hy → kn0 P G ops o ax Hx rx Hy := fun e1 e2 w => by
       unfold kn0; rw [e2]; exact .mkat e1 _ _ _ w
      have noB : ∀ {o : Oper} {C : Prop}, isMk o.op = true → xbv9 es o = true → C := fun e f => by
       simp only [xbv9, zbF9 e, Bool.and_false, Bool.false_and] at f
       cases f
      have noR : ∀ {o : Oper} {C : Prop}, rdOp o.op = none → xao9 rs o = true → C := fun e f => by
       obtain ⟨_, _, _, _, f3, _⟩ := qP0 f
       rw [e] at f3; cases f3
      refine ⟨Hm, ⟨⟨st1 j2 j3 z2, fun e => (by rw [j1] at e; cases e)⟩, noR j5, fun h => zah9 z2 (vcp9 w2 (t4 h)), fun _ => ⟨b2, z2⟩, noB j2, fun h H2 => (vb0 a1).1 (t7 h H2)⟩, ⟨⟨st1 i2 i3 z1', fun e => (by rw [i1] at e; cases e)⟩, noR i5, fun h => zah9 z1' (vcp9 w1 (s4 h)), fun _ => ⟨b1, z1'⟩, noB i2, fun h H2 => (vb0 a3).2 (s7 h H2)⟩⟩
     ·obtain ⟨d, x, f1, f2, f3, f4⟩ := qP0 hbr
      have e2 : Hj = H' := t2 (zaa9 f3)
      subst e2
      have hk := s6 hbe
      exact ⟨H, ⟨⟨(vb0 a1).1 (t3 hbr H hk), fun _ => rfl⟩, fun h H2 k => (vb0 a1).1 (t3 h H2 fun b B hb hB => k b B hb (hk b B hb hB)), fun _ => hid _, noE (zaa9 f3), fun _ => hid _, fun h H2 => (vb0 a1).1 (t7 h H2)⟩, ⟨⟨(vb0 a3).2 s1, s2⟩, fun h H2 k => (vb0 a3).2 (s3 h H2 k), s4, fun h => (s5 h).imp fun _ w => cgi w, s6, fun h H2 => (vb0 a3).2 (s7 h H2)⟩⟩
     ·obtain ⟨c1, c2, c3, c4⟩ := xah9 hci
      have e1 : H' = H := s2 c4
      subst e1
      exact ⟨Hj, ⟨⟨(vb0 a1).1 t1, t2⟩, fun h H2 k => (vb0 a1).1 (t3 h H2 k), t4, fun h => (t5 h).imp fun _ w => cgj w, t6, fun h H2 => (vb0 a1).1 (t7 h H2)⟩, ⟨⟨(vb0 a3).2 (s7 hci Hj), fun _ => rfl⟩, fun h H2 k => (vb0 a3).2 (s7 hci H2), fun _ => hid _, noE c4, fun _ => hid _, fun h H2 => (vb0 a3).2 (s7 h H2)⟩⟩
     ·obtain ⟨c1, c2, c3, c4⟩ := xah9 hcj
      have e2 : Hj = H' := t2 c4
      subst e2
      exact ⟨H, ⟨⟨(vb0 a1).1 (t7 hcj H), fun _ => rfl⟩, fun h H2 k => (vb0 a1).1 (t7 hcj H2), fun _ => hid _, noE c4, fun _ => hid _, fun h H2 => (vb0 a1).1 (t7 h H2)⟩, ⟨⟨(vb0 a3).2 s1, s2⟩, fun h H2 k => (vb0 a3).2 (s3 h H2 k), s4, fun h => (s5 h).imp fun _ w => cgi w, s6, fun h H2 => (vb0 a3).2 (s7 h H2)⟩⟩
    obtain ⟨Hm, hsj', hsi'⟩ := key
    refine ⟨oj', hoj, rj, Hm, hsj', ?_⟩
    refine ih (listed.setIfInBounds j true) _ _ _ (xF0 hc hj) (fun k ok hk hki hun => ?_) (ready_mono hr (Ne.symm hji)) hsi' ?_
    ·refine hfree k ok hk hki ?_
     by_cases hjk : j = k
     ·subst hjk; exact hjun
     ·rw [getD_set_ne true hjk] at hun; exact hun
    ·rw [Array.setIfInBounds_comm _ _ hji, ← kbc9 a r rj a2]
     exact hAj
def lexN (q : Operand → Bool) (rs : List (Nat × Nat)) (es : List (Nat × Option Nat)) (md : Region.Mode) (ops : Array Oper) (T : Nat) : Nat → Nat → Array Bool → Bool
 | 0, _, listed => (Region.ready md ops listed).isEmpty
 | n + 1, k, listed => decide (k < 256) && (Region.ready md ops listed).contains k &&
   ((List.range ops.size).all fun j => j == k || listed.getD j true || T.testBit (j * 256 + k) ||
    (match ops[k]?, ops[j]? with|some ok, some oj => (xbs9 q ok.op oj.op || (xao9 rs ok && (kZ0 es oj || eFlagM es oj)) || (mFlag q ok && mFlag q oj) || (xbv9 es ok && xao9 rs oj) || vbv9 q ok || vbv9 q oj) && ok.apart ops oj|_, _ => false)) &&
   lexN q rs es md ops T n (k + 1) (listed.setIfInBounds k true)
def vaq9 (q : Operand → Bool) (rs : List (Nat × Nat)) (es : List (Nat × Option Nat)) (ops : List Oper) : Bool :=
 match ancT .any ops 0 0 with
 | 0 => lexN q rs es .any ops.toArray 0 ops.length 0 (Array.replicate ops.length false)
 | n + 1 => lexN q rs es .any ops.toArray (n + 1) ops.length 0 (Array.replicate ops.length false)
theorem xbi9 (h : vaq9 q rs es ops = true) : ∃ T, zag9 .any ops T ∧ lexN q rs es .any ops.toArray T ops.length 0 (Array.replicate ops.length false) = true := by
 have hT : zag9 .any ops (ancT .any ops 0 0) := kaT9 ops 0 0 (fun j => by simp) fun j i _ h => by simp at h
 unfold vaq9 at h
 split at h
 ·rename_i h0; rw [h0] at hT; exact ⟨0, hT, h⟩
 ·rename_i n hn; rw [hn] at hT; exact ⟨n + 1, hT, h⟩
def zcq9 (P : Program) (G : Glob) (q : Operand → Bool) (ops : List Oper) (rs : List (Nat × Nat)) (es : List (Nat × Option Nat)) (N : Nat → Prop) (K : List AV → List Blk → Prop) : List Oper → List AV → List Blk → Prop
 | [], a, H => K a H
 | o :: rest, a, H => ∃ r H', zbi9 P G q ops rs es N o a H r H' ∧ zcq9 P G q ops rs es N K rest (putA a o.dst r) H'
theorem xaL9 {T : Nat} (hT : zag9 md ops T) : ∀ (l : List Oper) (k : Nat) (listed : Array Bool) (a : List AV) (H : List Blk), (∀ j, l[j]? = ops[k + j]?) → lexN q rs es md ops.toArray T l.length k listed = true → wS0 md ops listed →
  zcq9 P G q ops rs es N K l a H → qcq9 P G q ops rs es N md K l.length listed a H
 | [], k, listed, a, H, _, hB, _, h => ⟨by simpa [lexN] using hB, h⟩
 | o :: l, k, listed, a, H, hl, hB, hc, h => by
  have h0 : ops[k]? = some o := by simpa using (hl 0).symm
  simp only [List.length_cons, lexN, Bool.and_eq_true, List.all_eq_true, List.mem_range, decide_eq_true_eq] at hB
  obtain ⟨⟨⟨h256, hr⟩, hf⟩, hB'⟩ := hB
  have hr' : k ∈ Region.ready md ops.toArray listed := by simpa using hr
  obtain ⟨r, H', hs, hK⟩ := h
  refine kbv9 hT h256 h0 l.length listed a H H' hc (fun j oj hj hji hun => ?_) hr' hs ?_
  ·have hlt : j < ops.toArray.size := by simpa using (List.getElem?_eq_some_iff.1 hj).1
   have := hf j hlt
   simp only [Bool.or_eq_true, beq_iff_eq, hji, false_or, hun, Bool.false_eq_true, List.getElem?_toArray, h0, hj, Bool.and_eq_true, Bool.not_eq_true'] at this
   rcases this with q|⟨q1, q2⟩
   ·exact .inl q
   ·refine .inr ⟨?_, q2⟩
    rcases q1 with ((((q|⟨q, w⟩)|q)|q)|q)|q
    ·exact .inl q
    ·exact .inr (.inl ⟨q, by simpa using w⟩)
    ·exact .inr (.inr (.inl q))
    ·exact .inr (.inr (.inr (.inl q)))
    ·exact .inr (.inr (.inr (.inr (.inl q))))
    ·exact .inr (.inr (.inr (.inr (.inr q))))
  ·exact xaL9 hT l (k + 1) _ _ _ (fun j => by have := hl (j + 1); simpa [Nat.add_assoc, Nat.add_comm 1 j] using this) hB' (xF0 hc hr') hK
def waL9 (rs : List (Nat × Nat)) (es : List (Nat × Option Nat)) : List Oper → Bool
 | [] => true
 | o :: l => (!xao9 rs o || (match rdOp o.op with|some x => (o :: l).all fun o' => o'.dst != some x|none => false)) &&
   (!kZ0 es o || (match wZ0 o.op with|some (some y) => (o :: l).all fun o' => o'.dst != some y|some none => true|none => false)) && (!eFlagM es o || (match o.dst with|some d => l.all fun o' => o'.dst != some d|none => false)) && (!xbv9 es o || (match o.dst with|some d => l.all fun o' => o'.dst != some d|none => false)) && waL9 rs es l
def xcS9 (rs : List (Nat × Nat)) (es : List (Nat × Option Nat)) (a : List AV) : Prop := ∀ x ∈ rs, ∀ y ∈ es, ∀ t, y.2 = some t → apB (getA a x.2) (getA a t) = true
theorem qaX9 {a : List AV} {d : Option Tmp} {r : AV} {t : Nat} (h : d ≠ some t) : getA (putA a d r) t = getA a t := by
 cases d with
 | none => rfl
 | some d =>
  have : d ≠ t := fun e => h (by rw [e])
  simp [getA, putA, List.getD_eq_getElem?_getD, List.getElem?_set, this]
theorem wcS9 (a : List AV) (d : Option Tmp) (r : AV) : (putA a d r).length = a.length := by cases d <;> simp [putA]
theorem wbF9 : ∀ (l : List Oper) (a : List AV) (H : List Blk), waL9 rs es l = true → (l.all fun o => !(kZ0 es o && isVC o.op) || kpF q) = true → (l.all fun o => !((kZ0 es o && isMk o.op && atF q) || (eFlagM es o && !mFlag q o))) = true → (∀ y ∈ es, y.1 < a.length) → ChainK P G q ops (fun a H => K a H ∧ xcS9 rs es a) l a H →
  ∃ af, xcS9 rs es af ∧ (∀ t, (l.all fun o => o.dst != some t) = true → getA af t = getA a t) ∧ zcq9 P G q ops rs es (fun b => ∃ x ∈ rs, topB (getA af x.2).strip = some b) K l a H
 | [], a, H, _, _, _, _, h => ⟨a, h.2, fun _ _ => rfl, h.1⟩
 | o :: l, a, H, hl, hv, hx0, hlen, h => by
  obtain ⟨r, H', ⟨hs, hkk, hmm, hmn, hpp⟩, hc⟩ := h
  simp only [waL9, Bool.and_eq_true] at hl
  obtain ⟨⟨⟨⟨hl1, hl2⟩, hlm⟩, hlb⟩, hl3⟩ := hl
  rw [List.all_cons, Bool.and_eq_true] at hv hx0
  obtain ⟨af, hf, hu, hN⟩ := wbF9 l _ _ hl3 hv.2 hx0.2 (fun y hy => by rw [wcS9]; exact hlen y hy) hc
  have hu' : ∀ t, ((o :: l).all fun o => o.dst != some t) = true → getA af t = getA a t := fun t ht => by
   simp only [List.all_cons, Bool.and_eq_true, bne_iff_ne] at ht
   rw [hu t ht.2, qaX9 ht.1]
  refine ⟨af, hf, hu', r, H', ⟨hs, fun hfl => ?_, fun hfl => ?_, hmm, fun hfl => ?_, fun hfl => (by obtain ⟨c1, c2, c3, c4⟩ := xah9 hfl; exact hpp c1 c3 c2)⟩, hN⟩
  ·obtain ⟨d, x, f1, f2, f3, f4⟩ := qP0 hfl
   rw [hfl, f3] at hl1
   simp only [Bool.not_true, Bool.false_or] at hl1
   have hx := hu' x hl1
   intro H2 hk
   have h1 := hs.1
   unfold kn0 at h1 ⊢
   rw [f2] at h1 ⊢
   simp only at h1 ⊢
   cases h1 with
   | pure h1 =>
    have e := wbW9 (H2 := H2) f3 h1 (fun b B hb hB => hk b B ⟨(d, x), f4, by rw [hx]; exact hb⟩ hB)
    rw [← e] at h1 ⊢
    exact .pure h1
   | eff he h1 => rw [zcS9 f3] at he; cases he
   | made he r h1 => rw [kcp9 f3] at he; cases he
   | mkat he b r H' h1 => rw [kcp9 f3] at he; cases he
   | call c f g cap ho => rw [ho] at f3; simp [rdOp] at f3
   | yield c f b ho => rw [ho] at f3; simp [rdOp] at f3
  ·have hx1 := hx0.1
   by_cases hfM : eFlagM es o = true
   ·obtain ⟨d, g1, g2, g3, g4⟩ := wbv9 hfM
    have hmF : mFlag q o = true := by
     rw [hfM] at hx1
     cases w : mFlag q o with
     | true => rfl
     | false => rw [w] at hx1; simp at hx1
    obtain ⟨b0, hb0⟩ := hmm hmF
    refine zah9 hb0 ?_
    rintro ⟨x, hx, hxb⟩
    rw [hfM, g3] at hlm
    simp only [Bool.not_true, Bool.false_or] at hlm
    have hlt : d < a.length := hlen _ g4
    have hra := hu d hlm
    have := hf x hx _ g4 d rfl
    unfold apB at this
    rw [hxb, hra, g3] at this
    have e : getA (putA a (some d) r) d = r := by simp [getA, putA, hlt]
    rw [e, qcS9 hb0] at this
    simp at this
   have hfl : kZ0 es o = true := by
    rw [Bool.or_eq_true] at hfl
    exact hfl.resolve_right hfM
   obtain ⟨y, f1, f2, f3⟩ := qaL9 hfl
   rw [hfl, f1] at hl2
   intro b B hb hB
   by_cases hmk : isMk o.op = true
   ·have hat : atF q = false := by
     rw [hfl, hmk] at hx1
     cases w : atF q with
     | false => rfl
     | true => rw [w] at hx1; simp at hx1
    obtain ⟨E, rfl⟩ := hmn hat hmk f2
    rw [List.getElem?_append_left (List.getElem?_eq_some_iff.1 hB).1]; exact hB
   obtain ⟨x, hx, hxb⟩ := hb
   have h1 := hs.1
   unfold kn0 at h1
   rw [f2] at h1
   simp only at h1
   cases h1 with
   | pure h1 => exact hB
   | made he r h1 => exact hB
   | mkat he b' r H' h1 => exact absurd he hmk
   | eff he h1 =>
    refine kbW9 f1 h1 (fun t ht hbt => ?_) hB
    subst ht
    simp only [Bool.not_true, Bool.false_or] at hl2
    have hy := hu' t hl2
    have := hf x hx _ f3 t rfl
    unfold apB at this
    rw [hxb, hy] at this
    have hbt : topB (getA a t).strip = some b := hbt
    rw [hbt] at this
    simp at this
   | call c f g cap ho hcal =>
    have hvc : isVC o.op = true := by rw [ho]; obtain ⟨c1, c2, c3⟩ := c; simp only at hcal; subst hcal; rfl
    have hv1 := hv.1
    rw [hfl, hvc] at hv1
    obtain ⟨E, rfl⟩ := hkk (by simpa using hv1) f2 hvc
    rw [List.getElem?_append_left (List.getElem?_eq_some_iff.1 hB).1]; exact hB
   | yield c f b' ho hcal =>
    have hvc : isVC o.op = true := by rw [ho]; obtain ⟨c1, c2, c3⟩ := c; simp only at hcal; subst hcal; rfl
    have hv1 := hv.1
    rw [hfl, hvc] at hv1
    obtain ⟨E, rfl⟩ := hkk (by simpa using hv1) f2 hvc
    rw [List.getElem?_append_left (List.getElem?_eq_some_iff.1 hB).1]; exact hB
  ·rw [hfl] at hlb
   simp only [xbv9, Bool.and_eq_true] at hfl
   obtain ⟨⟨hfe, hap⟩, hd⟩ := hfl
   obtain ⟨y, f1, f2, f3⟩ := qaL9 hfe
   rw [hfe, f1] at hl2
   cases hdo : o.dst with
   | none => rw [hdo] at hd; cases hd
   | some d =>
    rw [hdo] at hd hlb
    simp only [Bool.not_true, Bool.false_or] at hlb
    have hkd : kcR9 o = d := by unfold kcR9; rw [hdo]
    rw [hkd] at f3
    have hlt : d < a.length := hlen _ f3
    rw [List.any_eq_true] at hd
    obtain ⟨y2, hy2, hy3⟩ := hd
    have hy3 : y2.2 = some d := by simpa using hy3
    have hra := hu d hlb
    rw [hdo] at hra
    have e : getA (putA a (some d) r) d = r := by simp [getA, putA, hlt]
    rw [e] at hra
    rintro b B ⟨x, hx, hxb⟩ hB
    have h1 := hs.1
    unfold kn0 at h1
    rw [f2] at h1
    simp only at h1
    have c2 := hf x hx y2 hy2 d hy3
    unfold apB at c2
    rw [hxb, hra] at c2
    obtain ⟨t, rfl⟩ := wcp9 hap f1
    simp only [Bool.not_true, Bool.false_or] at hl2
    have hy := hu' t hl2
    have c1 := hf x hx _ f3 t rfl
    unfold apB at c1
    rw [hxb, hy] at c1
    have hEA : vB0 o.op = true := by
     cases w : vB0 o.op with
     | true => rfl
     | false =>
      exfalso
      generalize o.op = oo at hap w
      unfold xV0 at hap
      split at hap
      ·simp [vB0] at w
      ·cases hap
    cases h1 with
    | pure h1 => exact hB
    | made he r h1 => exact hB
    | mkat he b' r H' h1 => rw [zbF9 he] at hap; cases hap
    | eff he h1 =>
     refine qbX9 hap f1 h1 (fun q => ?_) (fun q => ?_) hB
     ·have q : topB (getA a t).strip = some b := q
      rw [q] at c1; simp at c1
     ·rw [q] at c2; simp at c2
    | call c f g cap ho hcal => rw [ho] at hap; obtain ⟨c1, c2, c3⟩ := c; simp only at hcal; subst hcal; simp [xV0] at hap
    | yield c f b' ho hcal => rw [ho] at hap; obtain ⟨c1, c2, c3⟩ := c; simp only at hcal; subst hcal; simp [xV0] at hap
end
variable {ρ : Bool} {n0 : Nat} {Q : Post} {a : List AV} {H : List Blk}
theorem xcq9 {id : Nat} {ops : List Oper} {dr : Operand → Bool} (rs : List (Nat × Nat)) (es : List (Nat × Option Nat)) (dl : List (Nat × Nat)) (hm : P.follows .mixedOrders = true) (ho : vaq9 dr rs es (delays dl ops) = true) (hl : waL9 rs es (delays dl ops) = true)
  (hv : ((delays dl ops).all fun o => !(kZ0 es o && isVC o.op) || kpF dr) = true) (hx : ((delays dl ops).all fun o => !((kZ0 es o && isMk o.op && atF dr) || (eFlagM es o && !mFlag dr o))) = true) (hlen : ∀ y ∈ es, y.1 < a.length) (hckA : delayOkA P dl ops = true) (hckB : delayOkB dl ops = true) (hckC : delayOkC dl ops = true) (h : ChainK P G dr ops (fun a H => Q .normal a H ∧ xcS9 rs es a) ops a H) : AWp ρ P G n0 (.region id ops.toArray true) Q a H := fun ro S act hr0 h1 h2 h3 h4 => by
 refine wpIn_region_any hm ?_
 obtain ⟨T, hT, hlex⟩ := xbi9 ho
 have hcl : ∀ ops : List Oper, wS0 .any ops (Array.replicate ops.length false) := fun ops k o _ hk => by
  exfalso
  rw [Array.getD_eq_getD_getElem?] at hk
  rcases Nat.lt_or_ge k ops.length with q|q
  ·rw [Array.getElem?_replicate, if_pos q] at hk; cases hk
  ·rw [Array.getElem?_replicate, if_neg (by omega)] at hk; cases hk
 have hch := zZ0 dl ops 0 a H h
 obtain ⟨af, _, _, hN⟩ := wbF9 (delays dl ops) a H hl hv hx hlen hch
 have hA := zaL9 _ _ _ _ (xaL9 (md := .any) hT (delays dl ops) 0 (Array.replicate (delays dl ops).length false) a H (fun j => by simp) hlex (hcl _) hN)
 let S1 : St := S.with (S.w.drewN 1)
 have hok1 : S1.Ok H := ⟨h1.imm, h1.row, h1.ob, h1.inj⟩
 have hext : Ext n0 S H S1 H := ⟨rfl, rfl, rfl, Nat.le_refl _, fun _ _ _ => rfl, fun _ _ q => q, fun _ q => .inl q, fun _ q => .inl q, fun _ _ _ _ q => ⟨_, Nat.le_refl _, q, fun _ => rfl⟩, fun _ _ _ q => q, fun q => q⟩
 have e : ops.toArray.size = ops.length := by simp
 rw [e]
 rw [vI0] at hA
 refine vcR9 (ro := ro) (Q := fun e => Ends G n0 S H act.defers (Q e)) (dl := dl) hckA hckB hckC (fun act w q => q) ops.length [] _ _ a H S1 act hA ⟨hok1, h2, by assumption, hext, h4, Marks.refl _ _ _ _, ⟨by simp, by simp, fun j hj => by simp⟩, hcl _, fun p hp => (by cases hp), .nil⟩ ?_
 rw [List.countP_eq_length.2 fun j hj => by have := List.mem_range.1 hj; simp [this], List.length_range]
end
end Go.V
set_option linter.unusedVariables false
set_option linter.unusedSimpArgs false
set_option autoImplicit false
namespace Go.V
open Go Go.RowKit
def qam9 : List (Nat × Option Nat) → AV → (Nat → AV) → Bool
 | [], _, _ => true
 | (_, some t) :: es, v, s => apB v (s t) && qam9 es v s
 | (_, none) :: es, v, s => qam9 es v s
def qbw9 : List (Nat × Nat) → List (Nat × Option Nat) → (Nat → AV) → Bool
 | [], _, _ => true
 | (_, x) :: rs, es, s => qam9 es (s x) s && qbw9 rs es s
theorem wV0 {v : AV} {s : Nat → AV} : ∀ {es : List (Nat × Option Nat)}, qam9 es v s = true → ∀ y ∈ es, ∀ t, y.2 = some t → apB v (s t) = true
 | [], _, y, hy, _, _ => by cases hy
 | (k, some t0) :: es, h, y, hy, t, ht => by
  simp only [qam9, Bool.and_eq_true] at h
  rcases List.mem_cons.1 hy with rfl|hy
  ·injection ht with ht; subst ht; exact h.1
  ·exact wV0 h.2 y hy t ht
 | (k, none) :: es, h, y, hy, t, ht => by
  simp only [qam9] at h
  rcases List.mem_cons.1 hy with rfl|hy
  ·cases ht
  ·exact wV0 h y hy t ht
theorem vaL9 {es : List (Nat × Option Nat)} {s : Nat → AV} : ∀ {rs : List (Nat × Nat)}, qbw9 rs es s = true → ∀ x ∈ rs, qam9 es (s x.2) s = true
 | [], _, x, hx => by cases hx
 | (d, x0) :: rs, h, x, hx => by
  simp only [qbw9, Bool.and_eq_true] at h
  rcases List.mem_cons.1 hx with rfl|hx
  ·exact h.1
  ·exact vaL9 h.2 x hx
def wdL9 (rs : List (Nat × Nat)) (es : List (Nat × Option Nat)) (Q : wm0) : wm0 := fun e s H => Q e s H ∧ qbw9 rs es s = true
theorem vcS9 {rs : List (Nat × Nat)} {es : List (Nat × Option Nat)} {n : Nat} {s : Nat → AV} (h : qbw9 rs es s = true) : xcS9 rs es (Lst n s) := fun x hx y hy t ht => by
 have h1 := wV0 (vaL9 h x hx) y hy t ht
 rw [xaq9, xaq9]
 split
 ·split
  ·exact h1
  ·unfold apB; cases topB (s x.2).strip <;> simp [AV.strip, topB]
 ·unfold apB; simp [AV.strip, topB]
section
variable {ρ : Bool} {P : Program} {G : Glob} {n0 n : Nat} {body : Code} {p : List Nat} {Q : wm0} {B : Prop} {s : Nat → AV} {H : List Blk} {dr : Operand → Bool}
def wcq9 (P : Program) (dr : Operand → Bool) (rs : List (Nat × Nat)) (es : List (Nat × Option Nat)) (dl : List (Nat × Nat)) (ops : List Oper) : Bool :=
 vaq9 dr rs es (delays dl ops) && waL9 rs es (delays dl ops) && ((delays dl ops).all fun o => !(kZ0 es o && isVC o.op) || kpF dr) && ((delays dl ops).all fun o => !((kZ0 es o && isMk o.op && atF dr) || (eFlagM es o && !mFlag dr o))) && delayOkA P dl ops && delayOkB dl ops && delayOkC dl ops
theorem vay9 {P : Program} {G : Glob} {q : Operand → Bool} {ops : List Oper} {K K' : List AV → List Blk → Prop} (hk : ∀ a H, K a H → K' a H) : ∀ (l : List Oper) (a : List AV) (H : List Blk), ChainK P G q ops K l a H → ChainK P G q ops K' l a H
 | [], a, H, h => hk a H h
 | o :: l, a, H, ⟨r, H', hs, h⟩ => ⟨r, H', hs, vay9 hk l _ _ h⟩
theorem wa0 (rs : List (Nat × Nat)) (es : List (Nat × Option Nat)) (dl : List (Nat × Nat)) (hs : wY0 (atR body p) = true) (hd : xbf9 (atR body p) = true) (hm : P.follows .mixedOrders = true) (ho : wcq9 P dr rs es dl (kk0 (atR body p)) = true) (h : Acc ρ P G n0 n dr body p (wdL9 rs es Q) 0 B s H) (hown : ownF dr = false := by rfl) (hlen : (es.all fun y => decide (y.1 < n)) = true := by rfl) : Go ρ P G n0 n body p Q B s H := by
 refine ⟨h.1, ?_⟩
 have h2 := h.2
 unfold At
 generalize atR body p = c at hs h2 hd ho
 cases c with
 | region id ops d =>
  cases hd
  simp only [kk0, List.drop_zero] at h2 ho
  simp only [wcq9, Bool.and_eq_true] at ho
  refine xcq9 (ops := ops.toList) rs es dl hm ho.1.1.1.1.1.1 ho.1.1.1.1.1.2 ho.1.1.1.1.2 ho.1.1.1.2 (fun y hy => by rw [zO0]; simpa using List.all_eq_true.1 hlen y hy) ho.1.1.2 ho.1.2 ho.2 (vay9 (fun a H q => ?_) _ _ _ (wU0 hown _ _ _ h2))
  obtain ⟨s', rfl, q1, q2⟩ := q
  exact ⟨⟨s', rfl, q1⟩, vcS9 q2⟩
 | _ => cases hs
theorem kcS9 {rs : List (Nat × Nat)} {es : List (Nat × Option Nat)} (h : Out Q .normal (B ∧ qbw9 rs es s = true) s H) : Out (wdL9 rs es Q) .normal B s H := ⟨h.1.1, h.2, h.1.2⟩
end
attribute [push_cast] qbw9 qam9 apB topB
end Go.V
set_option linter.unusedVariables false
set_option linter.unusedSimpArgs false
set_option autoImplicit false
namespace Go.V
open Go Go.RowKit
def qf0 (s k : Nat) : Blk := .row s 0 (List.replicate (k + 1) [])
def St.dead (S : St) (b : Nat) : St := { S with μ := upd S.μ b none }
theorem vbF9 {b sz : Nat} {t : TypeId} {S : St} {H : List Blk} {es : List (List AV)} (hb : H[b]? = some (.row sz t es)) (hok : S.Ok H) :
  (S.dead b).Ok (H.set b (qf0 sz es.length)) ∧ (S.env H).le ((S.dead b).env (H.set b (qf0 sz es.length))) ∧ (∀ x g, (S.dead b).at (H.set b (qf0 sz es.length)) x = some g → x ≠ b ∧ S.at H x = some g) ∧ (∀ x g, x ≠ b → S.at H x = some g → (S.dead b).at (H.set b (qf0 sz es.length)) x = some g) ∧
  ∀ n0, Ext n0 S H (S.dead b) (H.set b (qf0 sz es.length)) := by
 have hlt := (List.getElem?_eq_some_iff.1 hb).1
 have hself : (H.set b (qf0 sz es.length))[b]? = some (qf0 sz es.length) := List.getElem?_set_self hlt
 have hne : ∀ x, x ≠ b → (H.set b (qf0 sz es.length))[x]? = H[x]? := fun x e => List.getElem?_set_ne (Ne.symm e)
 have hat : ∀ x, x ≠ b → (S.dead b).at (H.set b (qf0 sz es.length)) x = S.at H x := fun x e => by
  simp only [St.at, St.dead, hne x e, qh0 _ _ e]
 have hatb : ∀ x g, (S.dead b).at (H.set b (qf0 sz es.length)) x = some g → x ≠ b := fun x g hx e => by
  subst e
  unfold St.at at hx
  rw [hself] at hx
  simp [qf0, St.dead, ve0] at hx
 have hsh : ∀ x, x ≠ b → shOf (H.set b (qf0 sz es.length)) x = shOf H x := fun x e => by simp only [shOf, hne x e]
 have hshb : shOf (H.set b (qf0 sz es.length)) b = some (sz, es.length + 1) := by simp only [shOf, hself]; simp [qf0]
 have hshb0 : shOf H b = some (sz, es.length) := by simp [shOf, hb]
 have hmp : ∀ x, mpOf S.ν (H.set b (qf0 sz es.length)) x = mpOf S.ν H x := fun x => by
  by_cases e : x = b
  ·subst e; simp only [mpOf, hself, hb]; rfl
  ·simp only [mpOf, hne x e]
 have hle : (S.env H).le ((S.dead b).env (H.set b (qf0 sz es.length))) := by
  refine ⟨fun _ _ h => h, fun x s1 cur h => ?_, fun x g h => ?_⟩
  ·by_cases e : x = b
   ·subst e
    have h : shOf H x = some (s1, cur) := h
    rw [hshb0] at h
    injection h with h; injection h with h1 h2; subst h1; subst h2
    exact ⟨es.length + 1, Nat.le_succ _, hshb, fun q => absurd q (Nat.succ_ne_self _)⟩
   ·exact ⟨cur, Nat.le_refl _, (hsh x e).trans h, fun _ => qh0 _ _ e⟩
  ·exact (hmp x).trans h
 refine ⟨⟨hok.imm, fun x s' t' es2 hx => ?_, fun x o hx => ?_, fun x y g hx hy => ?_⟩, hle, fun x g hx => ⟨hatb x g hx, by rw [← hat x (hatb x g hx)]; exact hx⟩, fun x g e hx => (hat x e).trans hx, fun n0 => ⟨rfl, rfl, rfl, Nat.le_refl _, fun _ _ _ => rfl, fun _ _ h => h, fun _ h => .inl h, fun k h => ?_, fun x s1 cur _ hs => ?_, fun x g _ hg => (hmp x).trans hg, fun h => by simpa using h⟩⟩
 ·by_cases e : x = b
  ·subst e
   rw [hself] at hx
   injection hx with hx; injection hx with h1 h2 h3
   exact .inl ⟨ve0 _ _ _, .inr h2.symm⟩
  ·rw [hne x e] at hx
   rcases hok.row x s' t' es2 hx with q|⟨g, k, cs, h1, h2, h3, h4, h5, h6, h7⟩
   ·exact .inl ⟨(qh0 _ _ e).trans q.1, q.2⟩
   ·exact .inr ⟨g, k, cs, (qh0 _ _ e).trans h1, h2, h3, h4, h5, h6, h7.mono hle⟩
 ·have e : x ≠ b := by
   rintro rfl
   rw [hself] at hx; cases hx
  rw [hne x e] at hx
  obtain ⟨g, ob1, h1, h2, h3, h4⟩ := hok.ob x o hx
  exact ⟨g, ob1, h1, h2, h3, h4.mono hle⟩
 ·have q1 := hatb x g hx
  have q2 := hatb y g hy
  rw [hat x q1] at hx; rw [hat y q2] at hy
  exact hok.inj x y g hx hy
 ·obtain ⟨x, hx⟩ := h
  have q1 := hatb x k hx
  rw [hat x q1] at hx
  exact .inl ⟨x, hx⟩
 ·by_cases e : x = b
  ·subst e
   rw [hshb0] at hs
   injection hs with hs; injection hs with h1 h2; subst h1; subst h2
   exact ⟨es.length + 1, Nat.le_succ _, hshb, fun q => absurd q (Nat.succ_ne_self _)⟩
  ·exact ⟨cur, Nat.le_refl _, (hsh x e).trans hs, fun _ => qh0 _ _ e⟩
theorem qdV9 (x y : AV) : AV.ite false x y = y := by
 unfold AV.ite; split <;> rfl
theorem zdV9 (x y : AV) : AV.ite true x y = x := by
 unfold AV.ite; split <;> rfl
attribute [push_cast] qdV9 zdV9
end Go.V
set_option linter.unusedVariables false
set_option linter.unusedSimpArgs false
set_option autoImplicit false
namespace Go.V
open Go Go.RowKit
def renA (K : List Blk) (d j m : Nat) : AV → AV
 | .own b n h c => if b = j then .own m n h c else wv0 K d (.own b n h c)
 | v => wv0 K d v
def vdL9 (K : List Blk) (d j : Nat) : AV → Bool
 | .own b n h c => b == j || okA K d (.own b n h c)
 | v => okA K d v
def renR (K : List Blk) (d j m : Nat) : AV → AV
 | .tup vs => .tup (vs.map (renA K d j m))
 | v => renA K d j m v
def xeh9 (K : List Blk) (d j : Nat) : AV → Bool
 | .tup vs => vs.all (vdL9 K d j)
 | v => vdL9 K d j v
theorem vF0 {n0 n m : Nat} {s : Nat → AV} {H : List Blk} (hm : n0 ≤ m) (hml : m ≤ H.length) (hb : (H.take m).all (Blk.below m) = true) : Weak n0 (Lst n s) H (Lst n fun t => xi0 m (s t)) (H.take m) := by
 rw [← vax9]; exact zbf9 hm hml hb
end Go.V
set_option linter.unusedVariables false
set_option linter.unusedSimpArgs false
set_option autoImplicit false
namespace Go.V
open Go Go.RowKit
section
variable {ρ : Bool} {P : Program} {G : Glob} {n0 n : Nat} {body : Code} {p : List Nat} {Q : wm0} {B : Prop} {s : Nat → AV} {H : List Blk}
def wbi9 (ρ : Bool) (P : Program) (G : Glob) (n0 n : Nat) (body : Code) (p : List Nat) (Q : wm0) : Nat → (Nat → AV) → List Blk → Prop
 | 0, _, _ => False
 | m + 1, s, H => At ρ P G n0 n body (0 :: p) (vK0 (wbi9 ρ P G n0 n body p Q m) Q) s H
theorem wdu9 {Q' : wm0} (h : At ρ P G n0 n body p Q s H) (hq : ∀ e s H, Q e s H → Q' e s H) : At ρ P G n0 n body p Q' s H :=
 zy0 h fun e a H ⟨s, ha, q⟩ => ⟨s, ha, hq e s H q⟩
theorem kF0 (m : Nat) (hs : kdf9 (atR body p) = true) (h : Go ρ P G n0 n body (0 :: p) (vK0 (wbi9 ρ P G n0 n body p Q m) Q) B s H) : Go ρ P G n0 n body p Q B s H := by
 refine go_loop hs (fun k s H => wbi9 ρ P G n0 n body p Q k s H) (m := m + 1) h.1 (Weak.refl _ _) h.2 fun k s H hI => ?_
 cases k with
 | zero => exact hI.elim
 | succ k =>
  refine ⟨trivial, wdu9 hI fun e s' H' q => ?_⟩
  cases e with
  | normal => exact ⟨k, s', H', Nat.lt_succ_self k, Weak.refl _ _, q⟩
  | _ => exact q
theorem zbX9 {m : Nat} (h : Go ρ P G n0 n body (0 :: p) (vK0 (wbi9 ρ P G n0 n body p Q m) Q) B s H) : Out (vK0 (wbi9 ρ P G n0 n body p Q (m + 1)) Q) .normal B s H := ⟨h.1, h.2⟩
end
end Go.V
set_option linter.unusedVariables false
set_option linter.unusedSimpArgs false
set_option autoImplicit false
namespace Go.V
open Go Go.RowKit
def frz (j s : Nat) (es : List (List AV)) : AV → AV
 | .own b n h c => if b = j ∧ h = es.length then .sl s (es.take n) c else .own b n h c
 | .ptr b i o h => if b = j ∧ h = es.length ∧ i < es.length then .iptr (es.getD i []) o else .ptr b i o h
 | v => v
def frzB (j s : Nat) (es : List (List AV)) : Blk → Blk
 | .row z t fs => .row z t (fs.map fun e => e.map (frz j s es))
 | b => b
def frzH (j s : Nat) (es : List (List AV)) (H : List Blk) : List Blk := (H.set j (qf0 s es.length)).map (frzB j s es)
theorem qcT9 {j s : Nat} {es : List (List AV)} (H : List Blk) (x : Nat) : shOf (H.map (frzB j s es)) x = shOf H x := by
 simp only [shOf, List.getElem?_map]
 cases H[x]? with
 | none => rfl
 | some B => cases B <;> simp [frzB]
theorem kbF9 {j s : Nat} {es : List (List AV)} (ν : Nat → Option Nat) (H : List Blk) (x : Nat) : mpOf ν (H.map (frzB j s es)) x = mpOf ν H x := by
 simp only [mpOf, List.getElem?_map]
 cases H[x]? with
 | none => rfl
 | some B => cases B <;> simp [frzB]
theorem kdL9 {j s : Nat} {es : List (List AV)} (S : St) (H : List Blk) (x : Nat) : S.at (H.map (frzB j s es)) x = S.at H x := by
 simp only [St.at, List.getElem?_map]
 cases H[x]? with
 | none => rfl
 | some B => cases B <;> simp [frzB]
open Classical in
theorem xA0 {n0 n j sz : Nat} {t : TypeId} {s : Nat → AV} {H : List Blk} {es : List (List AV)} (hb : H[j]? = some (.row sz t es)) :
  Weak n0 (Lst n s) H (Lst n fun x => frz j sz es (s x)) (frzH j sz es H) := fun S vs hok hn ha => by
 obtain ⟨hokD, hleD, hatD, hatD', hextD⟩ := vbF9 hb hok
 have hlt := (List.getElem?_eq_some_iff.1 hb).1
 have hself : (H.set j (qf0 sz es.length))[j]? = some (qf0 sz es.length) := List.getElem?_set_self hlt
 let own (k : Nat) : Prop := ∃ c, S.μ j = some (k, c)
 let S' : St := ⟨fun k => if own k then S.w.heap[k]? else S.M k, upd S.μ j none, S.ν, S.w⟩
 have hMn : ∀ k, own k → S.M k = none := fun k ⟨c, hc⟩ => by
  obtain ⟨g0, k0, cs, q1, q2, _⟩ := (hok.row j sz t es hb).resolve_left (fun q => by rw [q.1] at hc; cases hc)
  rw [hc] at q1; injection q1 with q1; injection q1 with e1 e2; subst e1; exact q2
 have hM : ∀ k o, S.M k = some o → S'.M k = some o := fun k o hk => by
  have hno : ¬ own k := fun q => by rw [hMn k q] at hk; cases hk
  show (if own k then _ else _) = _
  rw [if_neg hno]; exact hk
 have henv : ∀ b s1 cur, (S.env H).sh b = some (s1, cur) → ∃ cur', cur ≤ cur' ∧ (S'.env (frzH j sz es H)).sh b = some (s1, cur') ∧ (cur' = cur → S'.μ b = S.μ b) := fun b s1 cur h => by
  obtain ⟨cur', l, h1, h2⟩ := hleD.sh b s1 cur h
  exact ⟨cur', l, by
   show shOf _ b = _
   rw [frzH, qcT9]; exact h1, h2⟩
 have hle : (S.env H).le (S'.env (frzH j sz es H)) := ⟨hM, henv, fun b g h => by
  show mpOf S.ν _ b = _
  rw [frzH, kbF9]
  exact hleD.ν b g h⟩
 have hfrz : ∀ (a : AV) (v : Value), Rel (S.env H) a v → Rel (S'.env (frzH j sz es H)) (frz j sz es a) v := fun a v hr => by
  have other : frz j sz es a = a → Rel (S'.env (frzH j sz es H)) (frz j sz es a) v := fun h => by rw [h]; exact Rel.mono hle a v hr
  cases a with
  | own b m h c =>
   by_cases hbj : b = j ∧ h = es.length
   ·simp only [frz, if_pos hbj]
    obtain ⟨rfl, rfl⟩ := hbj
    simp only [Rel] at hr ⊢
    obtain ⟨s1, cur, h1, h2, h3⟩ := hr
    have h1 : shOf H b = some (s1, cur) := h1
    rw [shOf, hb] at h1
    injection h1 with h1; injection h1 with e1 e2; subst e1; subst e2
    obtain ⟨hm, h4⟩ := h3 rfl
    have hlen : (es.take m).length = m := by simp; omega
    rcases h4 with ⟨_, ⟨a0, rfl⟩, rfl, hc⟩|⟨g, k, cap, hg, rfl, hncap, hcapk, hcn, hcs⟩
    ·refine ⟨a0, 0, by simp, by simp, by simp [maxLen], fun k hk => ?_, .inl (by simp)⟩
     rcases hc with rfl|rfl
     ·cases hk
     ·injection hk
    ·have hg : S.μ b = some (g, k) := hg
     obtain ⟨g0, k0, cs, q1, q2, q3, q4, q5, q6, q7⟩ := (hok.row b sz t es hb).resolve_left (fun q => by rw [q.1] at hg; cases hg)
     rw [hg] at q1; injection q1 with q1; injection q1 with e1 e3; subst e1; subst e3
     have hMg : S'.M g = some (.cells cs t (0, 0)) := by
      show (if own g then _ else _) = _
      rw [if_pos ⟨k, hg⟩]; exact q3
     refine ⟨some ⟨g, 0, none⟩, cap, by rw [hlen], by rw [hlen]; exact hncap, by omega, fun k hk => hcs k hk, .inr ⟨g, 0, rfl, RelE.mk fun i e hi => ?_⟩⟩
     rw [List.getElem?_take] at hi
     split at hi
     ·obtain ⟨l1, l2⟩ := q7 i e hi
      refine ⟨l1, RelC.mk fun q a hq => ?_⟩
      obtain ⟨w, hw, ho, hrw⟩ := l2 q a hq
      refine ⟨w, ?_, ho, Rel.mono hle a w hrw⟩
      show zv0 S'.M g (0 + i * sz + q) = some w
      simp only [zv0, hMg, Nat.zero_add]
      exact hw
     ·cases hi
   ·exact other (by simp only [frz, if_neg hbj])
  | ptr b i o h =>
   by_cases hbj : b = j ∧ h = es.length ∧ i < es.length
   ·simp only [frz, if_pos hbj]
    obtain ⟨rfl, rfl, hi⟩ := hbj
    simp only [Rel] at hr ⊢
    obtain ⟨s1, cur, h1, h2, h3⟩ := hr
    have h1 : shOf H b = some (s1, cur) := h1
    rw [shOf, hb] at h1
    injection h1 with h1; injection h1 with e1 e2; subst e1; subst e2
    obtain ⟨g, k, hg, rfl⟩ := h3 rfl
    have hg : S.μ b = some (g, k) := hg
    obtain ⟨g0, k0, cs, q1, q2, q3, q4, q5, q6, q7⟩ := (hok.row b sz t es hb).resolve_left (fun q => by rw [q.1] at hg; cases hg)
    rw [hg] at q1; injection q1 with q1; injection q1 with e1 e3; subst e1; subst e3
    have hMg : S'.M g = some (.cells cs t (0, 0)) := by
     show (if own g then _ else _) = _
     rw [if_pos ⟨k, hg⟩]; exact q3
    have hei : es[i]? = some (es.getD i []) := by
     rw [List.getD_eq_getElem?_getD, List.getElem?_eq_getElem hi]; rfl
    obtain ⟨l1, l2⟩ := q7 i _ hei
    refine ⟨g, i * sz, rfl, RelC.mk fun q a hq => ?_⟩
    obtain ⟨w, hw, ho, hrw⟩ := l2 q a hq
    refine ⟨w, ?_, ho, Rel.mono hle a w hrw⟩
    show zv0 S'.M g (i * sz + q) = some w
    simp only [zv0, hMg]
    exact hw
   ·exact other (by simp only [frz, if_neg hbj])
  | _ => exact other rfl
 have hat : ∀ x g, S'.at (frzH j sz es H) x = some g → x ≠ j ∧ S.at H x = some g := fun x g hx => by
  rw [frzH, kdL9] at hx
  exact hatD x g hx
 have hget : ∀ (x : Nat) (B : Blk), x ≠ j → (frzH j sz es H)[x]? = some B → ∃ B0, H[x]? = some B0 ∧ B = frzB j sz es B0 := fun x B e h => by
  rw [frzH, List.getElem?_map, List.getElem?_set_ne (Ne.symm e)] at h
  cases h0 : H[x]? with
  | none => rw [h0] at h; cases h
  | some B0 => rw [h0] at h; injection h with h; exact ⟨B0, rfl, h.symm⟩
 have hgetj : (frzH j sz es H)[j]? = some (frzB j sz es (qf0 sz es.length)) := by
  rw [frzH, List.getElem?_map, hself]; rfl
 refine ⟨S', rfl, ⟨fun k o hk => ?_, fun x s1 t1 es1 hx => ?_, fun x o hx => ?_, fun x y g hx hy => ?_⟩, ⟨rfl, rfl, rfl, Nat.le_refl _, fun _ _ _ => rfl, hM, fun k hk => ?_, fun k hk => ?_, fun x s1 cur _ hs => henv x s1 cur hs, fun x g _ hg => ?_, fun h => by simpa [frzH] using h⟩, ?_⟩
 ·have hk : (if own k then S.w.heap[k]? else S.M k) = some o := hk
  split at hk
  ·exact hk
  ·exact hok.imm k o hk
 ·by_cases e : x = j
  ·subst e
   rw [hgetj] at hx
   injection hx with hx; injection hx with h1 h2 h3
   exact .inl ⟨ve0 _ _ _, .inr h2.symm⟩
  ·obtain ⟨B0, h0, hB⟩ := hget x _ e hx
   cases B0 with
   | ob o => cases hB
   | row s2 t2 es2 =>
    injection hB with e1 e2 e3; subst e1; subst e2; subst e3
    rcases hok.row x s1 t1 es2 h0 with q|⟨g, k, cs, h1, h2, h3, h4, h5, h6, h7⟩
    ·refine .inl ⟨(qh0 _ _ e).trans q.1, q.2.imp (fun q2 => by rw [q2]; rfl) id⟩
    ·have hno : ¬ own g := fun ⟨c, hc⟩ => e (hok.inj x j g (by simp [St.at, h0, h1]) (by simp [St.at, hb, hc]))
     refine .inr ⟨g, k, cs, (qh0 _ _ e).trans h1, ?_, h3, h4, by simpa using h5, h6, fun i e' hi => ?_⟩
     ·show (if own g then _ else _) = _
      rw [if_neg hno]; exact h2
     ·rw [List.getElem?_map] at hi
      cases hei : es2[i]? with
      | none => rw [hei] at hi; cases hi
      | some e0 =>
       rw [hei] at hi
       simp only [Option.map_some, Option.some.injEq] at hi
       subst hi
       obtain ⟨l1, l2⟩ := h7 i e0 hei
       refine ⟨by simpa using l1, fun q a hq => ?_⟩
       rw [List.getElem?_map] at hq
       cases hej : e0[q]? with
       | none => rw [hej] at hq; cases hq
       | some a0 =>
        rw [hej] at hq
        simp only [Option.map_some, Option.some.injEq] at hq
        subst hq
        obtain ⟨u, hu, ho, hru⟩ := l2 q a0 hej
        exact ⟨u, hu, ho, hfrz a0 u hru⟩
 ·have e : x ≠ j := by
   rintro rfl
   rw [hgetj] at hx; cases hx
  obtain ⟨B0, h0, hB⟩ := hget x _ e hx
  cases B0 with
  | row _ _ _ => cases hB
  | ob o0 =>
   injection hB with hB; subst hB
   obtain ⟨g, ob1, h1, h2, h3, h4⟩ := hok.ob x o h0
   have hno : ¬ own g := fun ⟨c, hc⟩ => e (hok.inj x j g (by simp [St.at, h0, h1]) (by simp [St.at, hb, hc]))
   refine ⟨g, ob1, h1, ?_, h3, h4.mono hle⟩
   show (if own g then _ else _) = _
   rw [if_neg hno]; exact h2
 ·exact hok.inj x y g (hat x g hx).2 (hat y g hy).2
 ·have hk : (if own k then S.w.heap[k]? else S.M k) ≠ none := hk
  by_cases q : own k
  ·obtain ⟨c, hc⟩ := q
   exact .inr (.inl ⟨j, by simp [St.at, hb, hc]⟩)
  ·rw [if_neg q] at hk; exact .inl hk
 ·obtain ⟨x, hx⟩ := hk
  exact .inl ⟨x, (hat x k hx).2⟩
 ·rw [frzH, kbF9]
  exact (show mpOf S.ν _ x = _ from hleD.ν x g hg)
 ·refine RelL.mk (by simpa [Lst] using ha.length) fun i a v hi hv => ?_
  have : (Lst n fun x => frz j sz es (s x)) = (Lst n s).map (frz j sz es) := by simp [Lst]
  rw [this, List.getElem?_map] at hi
  cases hy : (Lst n s)[i]? with
  | none => rw [hy] at hi; cases hi
  | some y =>
   rw [hy] at hi
   simp only [Option.map_some, Option.some.injEq] at hi
   subst hi
   obtain ⟨v', hv', hr⟩ := ha.get hy
   rw [hv] at hv'; injection hv' with hv'; subst hv'
   exact hfrz y v hr
theorem qk0 {j s : Nat} {es fs : List (List AV)} (h : idsE (fun b => !(b == j)) fs = true) : (fs.map fun e => e.map (frz j s es)) = fs := by
 have h1 : ∀ a : AV, a.ids (fun b => !(b == j)) = true → frz j s es a = a := fun a ha => by
  cases a with
  | own b n h c =>
   simp only [AV.ids, Bool.not_eq_true', beq_eq_false_iff_ne, ne_eq] at ha
   simp [frz, ha]
  | ptr b i o h =>
   simp only [AV.ids, Bool.not_eq_true', beq_eq_false_iff_ne, ne_eq] at ha
   simp [frz, ha]
  | _ => rfl
 have h2 : ∀ e : List AV, idsL (fun b => !(b == j)) e = true → e.map (frz j s es) = e := fun e he => by
  induction e with
  | nil => rfl
  | cons a e ih =>
   rw [idsL, Bool.and_eq_true] at he
   rw [List.map_cons, h1 a he.1, ih he.2]
 induction fs with
 | nil => rfl
 | cons e fs ih =>
  rw [idsE, Bool.and_eq_true] at h
  rw [List.map_cons, h2 e h.1, ih h.2]
theorem ql0 {n0 n j sz : Nat} {t : TypeId} {es : List (List AV)} {Q : wm0} {B : Prop} {s : Nat → AV} {H : List Blk} {I : Nat → (Nat → AV) → List Blk → Prop} {m : Nat} (m' k : Nat) (hb : H[j]? = some (.row sz t es)) (hm : m' < m) (hB : B) (hn : n0 ≤ k) (hk : k ≤ H.length) (hbl : ((frzH j sz es H).take k).all (Blk.below k) = true) (hI : I m' (fun t => xi0 k (frz j sz es (s t))) ((frzH j sz es H).take k)) :
  Out (vK0 (fun s' H' => ∃ m' s2 H2, m' < m ∧ Weak n0 (Lst n s') H' (Lst n s2) H2 ∧ I m' s2 H2) Q) .normal B s H := by
 refine ⟨hB, m', _, _, hm, ?_, hI⟩
 have h1 : Weak n0 (Lst n s) H (Lst n fun x => frz j sz es (s x)) (frzH j sz es H) := xA0 hb
 have h2 : Weak n0 (Lst n fun x => frz j sz es (s x)) (frzH j sz es H) (Lst n fun t => xi0 k (frz j sz es (s t))) ((frzH j sz es H).take k) := vF0 hn (by simpa [frzH] using hk) hbl
 exact h1.trans h2
end Go.V
set_option linter.unusedVariables false
set_option linter.unusedSimpArgs false
set_option autoImplicit false
namespace Go.V
open Go Go.RowKit
def qei9 (z : Nat) (t : TypeId) (rss : List (List (List AV))) : List Blk := rss.map fun es => .row z t es
section
variable {z N q : Nat} {t : TypeId} {rss : List (List (List AV))}
end
def ownR (b0 I : Nat) (c : Option Nat) (N : Nat) : List (List AV) := (List.range N).map fun s => [.own (s + b0) I I c]
theorem wA0 (b0 I : Nat) (c : Option Nat) (N : Nat) : (ownR b0 I c N).length = N := by simp [ownR]
theorem kay9 {b0 I N k : Nat} (c : Option Nat) (h : k < N) : (ownR b0 I c N).getD k [] = [.own (k + b0) I I c] := by simp [ownR, h]
theorem zcT9 {b0 I N m : Nat} (c : Option Nat) (h : N + b0 ≤ m) : idsE (fun b => decide (b < m)) (ownR b0 I c N) = true := by
 rw [vC0]
 intro e he
 obtain ⟨s, hs, rfl⟩ := List.mem_map.1 he
 have := List.mem_range.1 hs
 simp [idsL, AV.ids]; omega
theorem vbi9 {b0 I N n : Nat} (c : Option Nat) (h : n ≤ N) : (ownR b0 I c N).take n = ownR b0 I c n := by
 rw [ownR, ← List.map_take, List.take_range, Nat.min_eq_left h]; rfl
end Go.V
namespace Go.V
abbrev a0_ := @xbE9
abbrev a1_ := @xcP9
abbrev a2_ := @xds9
abbrev a3_ := @vds9
abbrev a4_ := @vcP9
abbrev ak_ := @kcl9
abbrev a5_ := @vdJ9
abbrev a6_ := @kdJ9
abbrev a7_ := @wdJ9
abbrev a8_ := @wcP9
abbrev a9_ := @zcm9
abbrev g0_ := @kdU9
abbrev g1_ := @zdJ9
abbrev g2_ := @go_region
abbrev g4_ := @zds9
abbrev g5_ := @vcO9
abbrev g6_ := @go_skip
abbrev g7_ := @go_ret
abbrev g8_ := @kdr9
abbrev o0_ := @qdJ9
abbrev o1_ := @kcO9
abbrev o2_ := @wbf9
abbrev o3_ := @xaV9
abbrev o4_ := @vaV9
abbrev o5_ := @wcl9
abbrev o6_ := @zaH9
abbrev o7_ := @kaw9
abbrev o8_ := @waV9
abbrev o9_ := @qaH9
abbrev oa_ := @qdt9
abbrev ob_ := @vbU9
abbrev oc_ := @zcQ9
abbrev od_ := @wbu9
abbrev oe_ := @wdt9
abbrev of_ := @kcS9
abbrev og_ := @zbX9
end Go.V
