/- The library V, part 23: an evaluator for calls whose own blocks are all known. -/
import Derived.Test.YtjoldnonnjleoaaDoorV22
set_option linter.unusedVariables false
set_option linter.unusedSimpArgs false
namespace Go.V
open Go Go.RowKit

abbrev XCall := FuncId → List AV → List Blk → Option (AV × List Blk)
/-- A call inside of a region that draws its order: it leaves the caller's blocks alone, its result is closed. -/
def xdraw (call : XCall) (g : FuncId) (args : List AV) (H : List Blk) : Option (AV × List Blk) :=
  match idsL none_ args with
  | true =>
    match call g args [] with
    | some (r, H') => match okR H' 9 r with | true => some (closeR H' 9 r, H) | false => none
    | none => none
  | false => none
def xop (P : Program) (call : XCall) (dr : Bool) (o : Op) (ρ : Operand → AV) (H : List Blk) : Option (AV × List Blk) :=
  match o with
  | .call { callee := .value f, args, .. } =>
    match (ρ f).strip with
    | .fn g cap =>
      match (ρ f).ok && enters P g && (args.toList.all fun x => (ρ x).ok) with
      | true =>
        match dr with
        | true => xdraw call g ((args.toList.map fun x => (ρ x).strip) ++ cap) H
        | false => call g ((args.toList.map fun x => (ρ x).strip) ++ cap) H
      | false => none
    | _ => none
  | o =>
    match isEff o with
    | true => match estep P o ρ H with | (true, r, H') => some (r, H') | _ => none
    | false => match pstep P o ρ H with | (true, r) => some (r, H) | _ => none
def xops (P : Program) (G : Glob) (call : XCall) (dr : Bool) (ops : List Oper) : List Oper → List AV → List Blk → Option (List AV × List Blk)
  | [], a, H => some (a, H)
  | o :: rest, a, H =>
    match o.guard with
    | none =>
      match xop P call dr o.op (ev G a) H with
      | some (r, H') => xops P G call dr ops rest (putA a o.dst r) H'
      | none => none
    | some (j, want) =>
      match gBool ops a j want with
      | some true =>
        match xop P call dr o.op (ev G a) H with
        | some (r, H') => xops P G call dr ops rest (putA a o.dst r) H'
        | none => none
      | some false => xops P G call dr ops rest (putA a o.dst (.tup [])) H
      | none => none
abbrev XOut := Option (Exit × List AV × List Blk)
def xloop (step : List AV → List Blk → XOut) : Nat → List AV → List Blk → XOut
  | 0, _, _ => none
  | n + 1, a, H =>
    match step a H with
    | some (.normal, a', H') => xloop step n a' H'
    | r => r
def xcode (P : Program) (G : Glob) (call : XCall) (L : Nat) : Code → List AV → List Blk → XOut
  | .skip, a, H => some (.normal, a, H)
  | .label _, a, H => some (.normal, a, H)
  | .ret, a, H => some (.ret, a, H)
  | .exit id, a, H => some (.exit id, a, H)
  | .seq x y, a, H =>
    match xcode P G call L x a H with
    | some (.normal, a', H') => xcode P G call L y a' H'
    | r => r
  | .cond c x y, a, H =>
    match (ev G a c).strip, (ev G a c).ok with
    | .bool true, true => xcode P G call L x a H
    | .bool false, true => xcode P G call L y a H
    | _, _ => none
  | .block id x, a, H =>
    match xcode P G call L x a H with
    | some (.exit id', a', H') => match id' == id with | true => some (.normal, a', H') | false => some (.exit id', a', H')
    | r => r
  | .loop x, a, H => xloop (fun a H => xcode P G call L x a H) L a H
  | .region _ ops dr, a, H =>
    match dr with
    | false => match xops P G call false ops.toList ops.toList a H with | some (a', H') => some (.normal, a', H') | none => none
    | true =>
      match orderOk ops.toList with
      | true => match xops P G call true ops.toList ops.toList a H with | some (a', H') => some (.normal, a', H') | none => none
      | false => none
  | _, _, _ => none
/-- n: how deep calls may lie in each other; L: how many rounds a loop may have. -/
def xcall (P : Program) (G : Glob) (prim : XCall) (L : Nat) : Nat → XCall
  | 0, _, _, _ => none
  | n + 1, f, args, H =>
    match prim f args H with
    | some r => some r
    | none =>
    match P.funcs[f]? with
    | some fn =>
      match fn.body with
      | some c =>
        match xcode P G (xcall P G prim L n) L c (args ++ List.replicate (fn.ntmps - args.length) (.tup [])) H with
        | some (e, a', H') =>
          match (match e with | .normal => true | .ret => true | _ => false), ares P fn.results.toList a' H' with
          | true, (true, r) => some (r, H')
          | _, _ => none
        | none => none
      | none => none
    | none => none

section
variable {P : Program} {G : Glob} {call : XCall}

theorem pc_of_acalls {f : FuncId} {args : List AV} {r : AV} {H' : List Blk} (d : Nat) (h : ACalls P G f args [] r H') (hk : okR H' d r = true) : PC P G f args (closeR H' d r) := fun S vals hok hG ha => by
  refine (h S vals hok hG ha).mono fun e w' hh => ?_
  obtain ⟨v, S', rfl, rfl, hok', hext, hr⟩ := hh
  obtain ⟨S'', e1, e2, e3, e4⟩ := closes_all d hk S' v hok' (Nat.zero_le _) hr
  exact ⟨v, S'', rfl, e1, e2, hext.trans e3, e4⟩

theorem xdraw_ok (hcall : ∀ g args H r H', call g args H = some (r, H') → ACalls P G g args H r H') {g : FuncId} {args : List AV} {H H' : List Blk} {r : AV} (h : xdraw call g args H = some (r, H')) : ACalls P G g args H r H' ∧ H' = H := by
  unfold xdraw at h
  split at h
  · rename_i hi
    split at h
    · rename_i r1 H1 hc
      split at h
      · rename_i hk
        injection h with h; injection h with h1 h2; subst h1; subst h2
        exact ⟨pc_lift (pc_of_acalls 9 (hcall _ _ _ _ _ hc) hk) hi _, rfl⟩
      · cases h
    · cases h
  · cases h

theorem xop_ok (hcall : ∀ g args H r H', call g args H = some (r, H') → ACalls P G g args H r H') {dr : Bool} {o : Op} {ρ : Operand → AV} {H H' : List Blk} {r : AV} (h : xop P call dr o ρ H = some (r, H')) : OpSem P G o ρ H r H' ∧ (dr = true → isEff o = false → H' = H) := by
  unfold xop at h
  split at h
  · rename_i f args ts
    split at h
    · rename_i g cap hf
      split at h
      · rename_i hb
        simp only [Bool.and_eq_true] at hb
        split at h
        · obtain ⟨h1, h2⟩ := xdraw_ok hcall h
          exact ⟨.call _ f g cap rfl rfl hf hb.1.1 hb.1.2 hb.2 r H' h1, fun _ _ => h2⟩
        · exact ⟨.call _ f g cap rfl rfl hf hb.1.1 hb.1.2 hb.2 r H' (hcall _ _ _ _ _ h), fun q => (by cases q)⟩
      · cases h
    · cases h
  · split at h
    · rename_i he
      split at h
      · rename_i r1 H1 hs
        injection h with h; injection h with h1 h2; subst h1; subst h2
        have := OpSem.eff (P := P) (G := G) (o := o) (ρ := ρ) (H := H) he (by rw [hs])
        rw [hs] at this
        exact ⟨this, fun _ q => by rw [he] at q; cases q⟩
      · cases h
    · split at h
      · rename_i r1 hs
        injection h with h; injection h with h1 h2; subst h1; subst h2
        have := OpSem.pure (P := P) (G := G) (o := o) (ρ := ρ) (H := H) (by rw [hs])
        rw [hs] at this
        exact ⟨this, fun _ _ => rfl⟩
      · cases h

theorem xops_ok (hcall : ∀ g args H r H', call g args H = some (r, H') → ACalls P G g args H r H') {dr : Bool} {ops : List Oper} {K : List AV → List Blk → Prop} {a' : List AV} {H' : List Blk} (hK : K a' H') :
    ∀ (l : List Oper) (a : List AV) (H : List Blk), xops P G call dr ops l a H = some (a', H') → (dr = false → Chain P G ops K l a H) ∧ (dr = true → ChainD P G ops K l a H)
  | [], a, H, h => by
    simp only [xops, Option.some.injEq, Prod.mk.injEq] at h
    obtain ⟨rfl, rfl⟩ := h
    exact ⟨fun _ => hK, fun _ => hK⟩
  | o :: l, a, H, h => by
    have fin : ∀ r H1, Step1 P G ops o a H r H1 → (dr = true → isEff o.op = false → H1 = H) → xops P G call dr ops l (putA a o.dst r) H1 = some (a', H') → (dr = false → Chain P G ops K (o :: l) a H) ∧ (dr = true → ChainD P G ops K (o :: l) a H) := fun r H1 h1 h2 h3 => by
      have ih := xops_ok hcall hK l _ _ h3
      exact ⟨fun q => ⟨r, H1, h1, ih.1 q⟩, fun q => ⟨r, H1, ⟨h1, h2 q⟩, ih.2 q⟩⟩
    unfold xops at h
    split at h
    · rename_i hg
      split at h
      · rename_i r H1 hx
        obtain ⟨h1, h2⟩ := xop_ok hcall hx
        exact fin r H1 (by unfold Step1; rw [hg]; exact h1) h2 h
      · cases h
    · rename_i j want hg
      split at h
      · rename_i hb
        split at h
        · rename_i r H1 hx
          obtain ⟨h1, h2⟩ := xop_ok hcall hx
          exact fin r H1 (by unfold Step1; rw [hg]; exact ⟨true, hb, .inl ⟨rfl, h1⟩⟩) h2 h
        · cases h
      · rename_i hb
        exact fin (.tup []) H (by unfold Step1; rw [hg]; exact ⟨false, hb, .inr (.inl ⟨rfl, rfl, rfl⟩)⟩) (fun _ _ => rfl) h
      · cases h

theorem xloop_ok {n0 : Nat} {c : Code} {step : List AV → List Blk → XOut} (hs : ∀ a H e a' H', step a H = some (e, a', H') → ∀ Q : Post, Q e a' H' → AWp P G n0 c Q a H) {n : Nat} {a : List AV} {H : List Blk} {e : Exit} {a' : List AV} {H' : List Blk} (h : xloop step n a H = some (e, a', H')) {Q : Post} (hq : Q e a' H') : AWp P G n0 (.loop c) Q a H := by
  refine awp_loop (fun m a H => xloop step m a H = some (e, a', H')) (Weak.refl _ _) h fun m a H hI => ?_
  cases m with
  | zero => cases hI
  | succ m =>
    unfold xloop at hI
    split at hI
    · rename_i a1 H1 h1
      exact hs _ _ _ _ _ h1 _ ⟨m, a1, H1, by omega, Weak.refl _ _, hI⟩
    · rename_i hne
      refine hs _ _ _ _ _ hI _ ?_
      cases e with
      | normal => exact absurd hI (hne _ _)
      | _ => exact hq

theorem xcode_ok (hmix : P.follows .mixedOrders = true) (hcall : ∀ g args H r H', call g args H = some (r, H') → ACalls P G g args H r H') {L n0 : Nat} : ∀ (c : Code) (a : List AV) (H : List Blk) (e : Exit) (a' : List AV) (H' : List Blk), xcode P G call L c a H = some (e, a', H') → ∀ Q : Post, Q e a' H' → AWp P G n0 c Q a H := by
  intro c
  induction c with
  | skip => intro a H e a' H' h Q hq; simp only [xcode, Option.some.injEq, Prod.mk.injEq] at h; obtain ⟨rfl, rfl, rfl⟩ := h; exact awp_skip hq
  | label l => intro a H e a' H' h Q hq; simp only [xcode, Option.some.injEq, Prod.mk.injEq] at h; obtain ⟨rfl, rfl, rfl⟩ := h; exact awp_label hq
  | ret => intro a H e a' H' h Q hq; simp only [xcode, Option.some.injEq, Prod.mk.injEq] at h; obtain ⟨rfl, rfl, rfl⟩ := h; exact awp_ret hq
  | exit id => intro a H e a' H' h Q hq; simp only [xcode, Option.some.injEq, Prod.mk.injEq] at h; obtain ⟨rfl, rfl, rfl⟩ := h; exact awp_exit hq
  | seq x y ihx ihy =>
    intro a H e a' H' h Q hq
    unfold xcode at h
    split at h
    · rename_i a1 H1 h1
      exact awp_seq (ihx _ _ _ _ _ h1 _ (ihy _ _ _ _ _ h _ hq))
    · rename_i hne
      refine awp_seq (ihx _ _ _ _ _ h _ ?_)
      cases e with
      | normal => exact absurd h (hne _ _)
      | _ => exact hq
  | cond c x y ihx ihy =>
    intro a H e a' H' h Q hq
    unfold xcode at h
    split at h
    · rename_i h1 h2
      exact awp_cond h1 h2 (fun _ => ihx _ _ _ _ _ h _ hq) fun q => by cases q
    · rename_i h1 h2
      exact awp_cond h1 h2 (fun q => by cases q) fun _ => ihy _ _ _ _ _ h _ hq
    · cases h
  | block id x ih =>
    intro a H e a' H' h Q hq
    unfold xcode at h
    split at h
    · rename_i id' a1 H1 h1
      split at h
      · rename_i hid
        injection h with h; injection h with e1 h; injection h with e2 e3; subst e1; subst e2; subst e3
        have : id' = id := by simpa using hid
        exact awp_block (ih _ _ _ _ _ h1 _ (by simpa [inBlockA, this] using hq))
      · rename_i hid
        injection h with h; injection h with e1 h; injection h with e2 e3; subst e1; subst e2; subst e3
        have : ¬ id' = id := by simpa using hid
        exact awp_block (ih _ _ _ _ _ h1 _ (by simpa [inBlockA, this] using hq))
    · rename_i hne
      refine awp_block (ih _ _ _ _ _ h _ ?_)
      cases e with
      | exit id' => exact absurd h (hne _ _ _)
      | _ => exact hq
  | loop x ih =>
    intro a H e a' H' h Q hq
    unfold xcode at h
    exact xloop_ok (c := x) ih h hq
  | region id ops dr =>
    intro a H e a' H' h Q hq
    obtain ⟨ops⟩ := ops
    unfold xcode at h
    split at h
    · split at h
      · rename_i a1 H1 hx
        injection h with h; injection h with e1 h; injection h with e2 e3; subst e1; subst e2; subst e3
        have hC := (xops_ok hcall (K := Q .normal) hq _ _ _ hx).1 rfl
        intro S act h1 h2 h3 h4 h5
        refine wp_region ?_
        have := chain_wpOps (Q := fun e => Ends G n0 S H (Q e)) (fun act w q => q) ops 0 a H S act (fun j => by simp) hC h1 h2 h3 (Ext.refl _ _ _) h4 h5
        rw [List.range_eq_range']
        simpa using this
      · cases h
    · split at h
      · rename_i ho
        split at h
        · rename_i a1 H1 hx
          injection h with h; injection h with e1 h; injection h with e2 e3; subst e1; subst e2; subst e3
          have hC := (xops_ok hcall (K := Q .normal) hq _ _ _ hx).2 rfl
          intro S act h1 h2 h3 h4 h5
          refine wp_region_any hmix ?_
          have hA := chainD_any (md := .any) ops 0 (Array.replicate ops.length false) a H (fun j => by simp) ho (fun k o _ hk => by
            exfalso
            rw [Array.getD_eq_getD_getElem?] at hk
            rcases Nat.lt_or_ge k ops.length with q | q
            · rw [Array.getElem?_replicate, if_pos q] at hk; cases hk
            · rw [Array.getElem?_replicate, if_neg (by omega)] at hk; cases hk) hC
          let S1 : St := S.with (S.w.drewN 1)
          have hok1 : S1.Ok H := ⟨h1.imm, h1.row, h1.map, h1.inj⟩
          have hext : Ext n0 S H S1 H := ⟨rfl, rfl, rfl, Nat.le_refl _, fun _ _ _ => rfl, fun _ _ q => q, fun _ q => .inl q, fun _ q => .inl q, fun _ _ _ _ q => ⟨_, Nat.le_refl _, q, fun _ => rfl⟩, fun _ _ _ q => q, fun q => q⟩
          have := aAny_wp (Q := fun e => Ends G n0 S H (Q e)) (fun act w q => q) ops.length (Array.replicate ops.length false) a H S1 act hA hok1 h2 h3 hext h4 h5
          have e : ops.toArray.size = ops.length := by simp
          rw [e]
          exact this
        · cases h
      · cases h
  | _ => intro a H e a' H' h; cases h

theorem xcall_ok (hmix : P.follows .mixedOrders = true) {prim : XCall} (hprim : ∀ f args H r H', prim f args H = some (r, H') → ACalls P G f args H r H') {L : Nat} : ∀ (n : Nat) (f : FuncId) (args : List AV) (H : List Blk) (r : AV) (H' : List Blk), xcall P G prim L n f args H = some (r, H') → ACalls P G f args H r H'
  | 0, f, args, H, r, H', h => by cases h
  | n + 1, f, args, H, r, H', h => by
    unfold xcall at h
    split at h
    · rename_i r1 hp
      exact hprim _ _ _ _ _ (hp.trans h)
    split at h
    · rename_i fn hf
      split at h
      · rename_i c hb
        split at h
        · rename_i e a1 H1 hx
          split at h
          · rename_i r1 he hr
            injection h with h; injection h with h1 h2; subst h1; subst h2
            refine acalls_of_awp hf hb (xcode_ok hmix (fun g args H r H' => xcall_ok hmix hprim n g args H r H') c _ _ _ _ _ hx _ ⟨?_, by rw [hr], ?_⟩)
            · cases e <;> first | exact .inl rfl | exact .inr rfl | cases he
            · rw [hr]; exact fun S' u h5 h6 h7 => ⟨S', rfl, h5, Ext.refl _ _ _, h7⟩
          · cases h
        · cases h
      · cases h
    · cases h
end
end Go.V
