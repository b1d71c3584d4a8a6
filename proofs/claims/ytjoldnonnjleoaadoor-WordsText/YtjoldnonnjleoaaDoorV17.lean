/- The library V, part 17: code. -/
import Derived.Test.YtjoldnonnjleoaaDoorV16
set_option linter.unusedVariables false
set_option linter.unusedSimpArgs false
namespace Go.V
open Go Go.RowKit

abbrev Post := Exit → List AV → List Blk → Prop

/-- From the state (a, H) the code c ends in Q. n0: the own blocks that were there when the activation began. -/
def AWp (P : Program) (G : Glob) (n0 : Nat) (c : Code) (Q : Post) (a : List AV) (H : List Blk) : Prop :=
  ∀ (S : St) (act : Act), S.Ok H → Globs G S.M → n0 ≤ H.length → RelL (S.env H) a act.tmps.toList → act.defers = [] → c.wp P (fun e => Ends G n0 S H (Q e)) act S.w

/-- What follows behind a piece of code. -/
def thenA (K : List AV → List Blk → Prop) (Q : Post) : Post
  | .normal, a, H => K a H
  | e, a, H => Q e a H
def inBlockA (id : Nat) (Q : Post) : Post
  | .exit id', a, H => if id' = id then Q .normal a H else Q (.exit id') a H
  | e, a, H => Q e a H

/-- The state may be looked at as another one. -/
def Weak (n0 : Nat) (a : List AV) (H : List Blk) (a1 : List AV) (H1 : List Blk) : Prop :=
  ∀ (S : St) (vs : List Value), S.Ok H → n0 ≤ H.length → RelL (S.env H) a vs → ∃ S1, S1.w = S.w ∧ S1.Ok H1 ∧ Ext n0 S H S1 H1 ∧ RelL (S1.env H1) a1 vs

section
variable {P : Program} {G : Glob} {n0 : Nat} {Q : Post} {a : List AV} {H : List Blk}

theorem Ends.mono {S : St} {K K' : List AV → List Blk → Prop} {act : Act} {w : World} (h : Ends G n0 S H K act w) (hk : ∀ a H, K a H → K' a H) : Ends G n0 S H K' act w :=
  let ⟨a', H', S', h1, h2, h3⟩ := h
  ⟨a', H', S', h1, hk _ _ h2, h3⟩
theorem Ends.from {S S1 : St} {H1 : List Blk} {K : List AV → List Blk → Prop} {act : Act} {w : World} (he : Ext n0 S H S1 H1) (h : Ends G n0 S1 H1 K act w) : Ends G n0 S H K act w :=
  let ⟨a', H', S', h1, h2, h3, h4, h5⟩ := h
  ⟨a', H', S', h1, h2, h3, he.trans h4, h5⟩

theorem awp_mono {c : Code} {Q' : Post} (h : AWp P G n0 c Q a H) (hq : ∀ e a H, Q e a H → Q' e a H) : AWp P G n0 c Q' a H :=
  fun S act h1 h2 h3 h4 h5 => wp_mono (h S act h1 h2 h3 h4 h5) fun e _ _ he => he.mono (hq e)
theorem awp_seq {x y : Code} (h : AWp P G n0 x (thenA (AWp P G n0 y Q) Q) a H) : AWp P G n0 (.seq x y) Q a H := fun S act h1 h2 h3 h4 h5 =>
  wp_seq (wp_mono (h S act h1 h2 h3 h4 h5) fun e act' w' he => by
    cases e with
    | normal =>
      obtain ⟨a', H', S', rfl, hK, hok, hext, ha, hd⟩ := he
      exact wp_mono (hK S' act' hok (h2.mono hext.M) (hext.len h3) ha hd) fun e _ _ q => q.from hext
    | _ => exact he)
theorem awp_skip (h : Q .normal a H) : AWp P G n0 .skip Q a H := fun S act h1 h2 h3 h4 h5 => wp_skip ⟨a, H, S, rfl, h, h1, Ext.refl _ _ _, h4, h5⟩
theorem awp_ret (h : Q .ret a H) : AWp P G n0 .ret Q a H := fun S act h1 h2 h3 h4 h5 => wp_ret ⟨a, H, S, rfl, h, h1, Ext.refl _ _ _, h4, h5⟩
theorem awp_exit {id : Nat} (h : Q (.exit id) a H) : AWp P G n0 (.exit id) Q a H := fun S act h1 h2 h3 h4 h5 => wp_exit ⟨a, H, S, rfl, h, h1, Ext.refl _ _ _, h4, h5⟩
theorem awp_label {l : Nat} (h : Q .normal a H) : AWp P G n0 (.label l) Q a H := fun S act h1 h2 h3 h4 h5 => wp_label ⟨a, H, S, rfl, h, h1, Ext.refl _ _ _, h4, h5⟩
theorem awp_block {id : Nat} {c : Code} (h : AWp P G n0 c (inBlockA id Q) a H) : AWp P G n0 (.block id c) Q a H := fun S act h1 h2 h3 h4 h5 =>
  wp_block (wp_mono (h S act h1 h2 h3 h4 h5) fun e act' w' he => by
    cases e with
    | exit id' =>
      by_cases hid : id' = id
      · have he' : Ends G n0 S H (Q .normal) act' w' := he.mono fun a H q => by simpa [inBlockA, hid] using q
        simpa [Exit.inBlock, hid] using he'
      · have he' : Ends G n0 S H (Q (.exit id')) act' w' := he.mono fun a H q => by simpa [inBlockA, hid] using q
        simpa [Exit.inBlock, hid] using he'
    | _ => exact he)
theorem awp_cond {c : Operand} {x y : Code} {b : Bool} (hc : (ev G a c).strip = .bool b) (hk : (ev G a c).ok = true) (ht : b = true → AWp P G n0 x Q a H) (hf : b = false → AWp P G n0 y Q a H) : AWp P G n0 (.cond c x y) Q a H :=
  fun S act h1 h2 h3 h4 h5 => by
    have hr := (rel_ev (act := act) h2 h4 c).strip hk
    rw [hc] at hr
    have hv : act.eval c = .bool b := by simpa [Rel] using hr
    exact wp_cond_split hv (fun e => ht e S act h1 h2 h3 h4 h5) fun e => hf e S act h1 h2 h3 h4 h5
theorem awp_any {c : Operand} {x y : Code} (hc : (ev G a c).strip = .anyb) (hk : (ev G a c).ok = true) (ht : AWp P G n0 x Q a H) (hf : AWp P G n0 y Q a H) : AWp P G n0 (.cond c x y) Q a H :=
  fun S act h1 h2 h3 h4 h5 => by
    have hr := (rel_ev (act := act) h2 h4 c).strip hk
    rw [hc] at hr
    simp only [Rel] at hr
    obtain ⟨b, hv⟩ := hr
    exact wp_cond_split hv (fun e => ht S act h1 h2 h3 h4 h5) fun e => hf S act h1 h2 h3 h4 h5
theorem awp_weak {c : Code} {a1 : List AV} {H1 : List Blk} (hw : Weak n0 a H a1 H1) (h : AWp P G n0 c Q a1 H1) : AWp P G n0 c Q a H := fun S act h1 h2 h3 h4 h5 => by
  obtain ⟨S1, e1, e2, e3, e4⟩ := hw S _ h1 h3 h4
  have := h S1 act e2 (h2.mono e3.M) (e3.len h3) e4 h5
  rw [e1] at this
  exact wp_mono this fun e _ _ q => q.from e3
theorem Weak.refl (a : List AV) (H : List Blk) : Weak n0 a H a H := fun S vs h1 h2 h3 => ⟨S, rfl, h1, Ext.refl _ _ _, h3⟩
theorem Weak.trans {a1 a2 : List AV} {H1 H2 : List Blk} (h : Weak n0 a H a1 H1) (k : Weak n0 a1 H1 a2 H2) : Weak n0 a H a2 H2 := fun S vs h1 h2 h3 => by
  obtain ⟨S1, e1, e2, e3, e4⟩ := h S vs h1 h2 h3
  obtain ⟨S2, f1, f2, f3, f4⟩ := k S1 vs e2 (e3.len h2) e4
  exact ⟨S2, f1.trans e1, f2, e3.trans f3, f4⟩

/-- A loop whose measure stands in the relation. -/
theorem wp_loop_rel {c : Code} {Q : Exit → Act → World → Prop} (I : Nat → Act → World → Prop) (round : ∀ n a w, I n a w → c.wp P (Exit.then (fun a' w' => ∃ m, m < n ∧ I m a' w') Q) a w) :
    ∀ n act w, I n act w → (Code.loop c).wp P Q act w := by
  intro n act w h₀ b k cs
  have key : ∀ n act w, I n act w → ∃ e a' w', Q e a' w' ∧ Arrives P (lone (b.at act (.code c :: .inLoop c :: k)) cs w) b k cs e a' w' := by
    intro n
    induction n using Nat.strongRecOn with
    | _ n ih =>
      intro act w hI
      obtain ⟨e, a₁, w₁, hq, harr⟩ := round n act w hI b (.inLoop c :: k) cs
      cases e with
      | normal =>
        obtain ⟨m, hlt, hI₁⟩ := hq
        obtain ⟨e₂, a₂, w₂, hq₂, harr₂⟩ := ih m hlt a₁ w₁ hI₁
        exact ⟨e₂, a₂, w₂, hq₂, .of_steps (Steps.trans harr (.one step_inLoop)) harr₂⟩
      | exit id => exact ⟨_, a₁, w₁, hq, .pass (x := .inLoop c) rfl (fun _ _ => .inl (by simp)) harr⟩
      | goto l => exact ⟨_, a₁, w₁, hq, .pass (x := .inLoop c) rfl (fun _ _ => .inl (by simp)) harr⟩
      | ret => exact ⟨_, a₁, w₁, hq, .pass (x := .inLoop c) rfl (fun _ _ => .inl (by simp)) harr⟩
      | panic ch => exact ⟨_, a₁, w₁, hq, .pass (x := .inLoop c) rfl (fun _ _ => .inl (by simp)) harr⟩
      | outgrown => exact ⟨_, a₁, w₁, hq, .pass (x := .inLoop c) rfl (fun _ _ => .inl (by simp)) harr⟩
  obtain ⟨e, a', w', hq, harr⟩ := key n act w h₀
  exact ⟨e, a', w', hq, .of_steps (.one step_loop) harr⟩

/-- I n: what holds at a round's head with at most n rounds to come. -/
theorem awp_loop {c : Code} (I : Nat → List AV → List Blk → Prop) {n : Nat} {a1 : List AV} {H1 : List Blk} (hw : Weak n0 a H a1 H1) (h0 : I n a1 H1)
    (round : ∀ n a H, I n a H → AWp P G n0 c (thenA (fun a' H' => ∃ m a2 H2, m < n ∧ Weak n0 a' H' a2 H2 ∧ I m a2 H2) Q) a H) : AWp P G n0 (.loop c) Q a H := fun S act h1 h2 h3 h4 h5 => by
  obtain ⟨S1, e1, e2, e3, e4⟩ := hw S _ h1 h3 h4
  have := wp_loop_rel (P := P) (c := c) (Q := fun e => Ends G n0 S H (Q e)) (fun n act w => Ends G n0 S H (I n) act w) (fun n act w hI => ?_) n act S.w ⟨a1, H1, S1, e1, h0, e2, e3, e4, h5⟩
  · exact this
  · obtain ⟨a', H', S', rfl, hK, hok, hext, ha, hd⟩ := hI
    refine wp_mono (round n a' H' hK S' act hok (h2.mono hext.M) (hext.len h3) ha hd) fun e act' w' he => ?_
    cases e with
    | normal =>
      obtain ⟨a2, H2, S2, rfl, ⟨m, a3, H3, hlt, hwk, hI3⟩, hok2, hext2, ha2, hd2⟩ := he
      obtain ⟨S3, f1, f2, f3, f4⟩ := hwk S2 _ hok2 (hext2.len (hext.len h3)) ha2
      exact ⟨m, hlt, a3, H3, S3, f1, hI3, f2, (hext.trans hext2).trans f3, f4, hd2⟩
    | _ => exact Ends.from hext he

/-! ### Regions -/
def callK (P : Program) (G : Glob) (dr : Bool) (f : AV) (args : List AV) (H : List Blk) (K : AV → List Blk → Prop) : Prop :=
  match f.strip with
  | .fn g cap => f.ok = true ∧ enters P g = true ∧ (args.all AV.ok) = true ∧
      (if dr = true then ∃ r, ACalls P G g (args.map AV.strip ++ cap) H r H ∧ K r H else ∃ r H', ACalls P G g (args.map AV.strip ++ cap) H r H' ∧ K r H')
  | _ => False
def gcallK (P : Program) (G : Glob) (g : Bool) (f : AV) (args : List AV) (H : List Blk) (K : AV → List Blk → Prop) : Prop :=
  match f.strip with
  | .fn fn cap => (g = true → f.ok = true ∧ (args.all AV.ok) = true) ∧ enters P fn = true ∧ ∃ r, (g = true → ACalls P G fn (args.map AV.strip ++ cap) H r H) ∧ K (.opt g r) H
  | _ => False
def opK (P : Program) (G : Glob) (dr : Bool) (o : Op) (ρ : Operand → AV) (H : List Blk) (K : AV → List Blk → Prop) : Prop :=
  match o with
  | .call { callee := .value f, args, .. } => callK P G dr (ρ f) (args.toList.map ρ) H K
  | o => if isEff o = true then (estep P o ρ H).1 = true ∧ K (estep P o ρ H).2.1 (estep P o ρ H).2.2 else (pstep P o ρ H).1 = true ∧ K (pstep P o ρ H).2 H
def gopK (P : Program) (G : Glob) (dr : Bool) (g : Bool) (o : Op) (ρ : Operand → AV) (H : List Blk) (K : AV → List Blk → Prop) : Prop :=
  match o with
  | .call { callee := .value f, args, .. } => gcallK P G g (ρ f) (args.toList.map ρ) H K
  | o => if isEff o = true then g = true ∧ (estep P o ρ H).1 = true ∧ K (estep P o ρ H).2.1 (estep P o ρ H).2.2 else (g = true → (pstep P o ρ H).1 = true) ∧ K (.opt g (pstep P o ρ H).2) H
def tops (P : Program) (G : Glob) (dr : Bool) (ops : List Oper) (K : List AV → List Blk → Prop) : List Oper → List AV → List Blk → Prop
  | [], a, H => K a H
  | o :: rest, a, H =>
    match o.guard with
    | none => opK P G dr o.op (ev G a) H (fun r H' => tops P G dr ops K rest (putA a o.dst r) H')
    | some (j, want) =>
      match gBool ops a j want with
      | some g => gopK P G dr g o.op (ev G a) H (fun r H' => tops P G dr ops K rest (putA a o.dst r) H')
      | none => False

theorem opK_sem {dr : Bool} {o : Op} {ρ : Operand → AV} {K : AV → List Blk → Prop} (h : opK P G dr o ρ H K) : ∃ r H', OpSem P G o ρ H r H' ∧ (dr = true → isEff o = false → H' = H) ∧ K r H' := by
  have plain : (if isEff o = true then (estep P o ρ H).1 = true ∧ K (estep P o ρ H).2.1 (estep P o ρ H).2.2 else (pstep P o ρ H).1 = true ∧ K (pstep P o ρ H).2 H) → ∃ r H', OpSem P G o ρ H r H' ∧ (dr = true → isEff o = false → H' = H) ∧ K r H' := by
    intro h
    split at h
    · rename_i he
      exact ⟨_, _, .eff he h.1, fun _ q => (by rw [he] at q; cases q), h.2⟩
    · exact ⟨_, _, .pure h.1, fun _ _ => rfl, h.2⟩
  unfold opK at h
  split at h
  · rename_i f args ts
    unfold callK at h
    split at h
    · rename_i g cap hf
      obtain ⟨h1, h2, h3, h4⟩ := h
      have hargs : (args.toList.all fun x => (ρ x).ok) = true := by simpa [List.all_map] using h3
      have hmap : (args.toList.map ρ).map AV.strip = args.toList.map fun x => (ρ x).strip := by simp
      split at h4
      · obtain ⟨r, hc, hk⟩ := h4
        rw [hmap] at hc
        exact ⟨r, H, .call _ f g cap rfl rfl hf h1 h2 hargs r H hc, fun _ _ => rfl, hk⟩
      · rename_i hdr
        obtain ⟨r, H', hc, hk⟩ := h4
        rw [hmap] at hc
        exact ⟨r, H', .call _ f g cap rfl rfl hf h1 h2 hargs r H' hc, fun q => absurd q hdr, hk⟩
    · exact h.elim
  · exact plain h

theorem gopK_sem {ops : List Oper} {dr g : Bool} {o : Oper} {a : List AV} {j : Nat} {want : Bool} (hg : o.guard = some (j, want)) (hb : gBool ops a j want = some g) {K : AV → List Blk → Prop} (h : gopK P G dr g o.op (ev G a) H K) :
    ∃ r H', Step1 P G ops o a H r H' ∧ (dr = true → isEff o.op = false → H' = H) ∧ K r H' := by
  have mk : ∀ r H', ((g = true ∧ OpSem P G o.op (ev G a) H r H') ∨ (g = false ∧ r = .tup [] ∧ H' = H) ∨ (∃ v, r = .opt g v ∧ H' = H ∧ (g = true → OpSem P G o.op (ev G a) H v H))) → Step1 P G ops o a H r H' := by
    intro r H' q
    unfold Step1
    rw [hg]
    exact ⟨g, hb, q⟩
  have plain : (if isEff o.op = true then g = true ∧ (estep P o.op (ev G a) H).1 = true ∧ K (estep P o.op (ev G a) H).2.1 (estep P o.op (ev G a) H).2.2 else (g = true → (pstep P o.op (ev G a) H).1 = true) ∧ K (.opt g (pstep P o.op (ev G a) H).2) H) →
      ∃ r H', Step1 P G ops o a H r H' ∧ (dr = true → isEff o.op = false → H' = H) ∧ K r H' := by
    intro h
    split at h
    · rename_i he
      exact ⟨_, _, mk _ _ (.inl ⟨h.1, .eff he h.2.1⟩), fun _ q => (by rw [he] at q; cases q), h.2.2⟩
    · exact ⟨_, _, mk _ _ (.inr (.inr ⟨_, rfl, rfl, fun q => .pure (h.1 q)⟩)), fun _ _ => rfl, h.2⟩
  unfold gopK at h
  split at h
  · rename_i f args ts hop
    unfold gcallK at h
    split at h
    · rename_i fn cap hf
      obtain ⟨h1, h2, r, h3, h4⟩ := h
      refine ⟨_, _, mk (.opt g r) H (.inr (.inr ⟨r, rfl, rfl, fun q => ?_⟩)), fun _ _ => rfl, h4⟩
      have hargs : (args.toList.all fun x => (ev G a x).ok) = true := by simpa [List.all_map] using (h1 q).2
      have hmap : (args.toList.map (ev G a)).map AV.strip = args.toList.map fun x => (ev G a x).strip := by simp
      have hc := h3 q
      rw [hmap] at hc
      exact .call _ f fn cap hop rfl hf (h1 q).1 h2 hargs r H hc
    · exact h.elim
  · exact plain h

theorem tops_chain {ops : List Oper} {K : List AV → List Blk → Prop} : ∀ (l : List Oper) (a : List AV) (H : List Blk), tops P G false ops K l a H → Chain P G ops K l a H
  | [], a, H, h => h
  | o :: l, a, H, h => by
    unfold tops at h
    split at h
    · rename_i hg
      obtain ⟨r, H', h1, _, h2⟩ := opK_sem h
      exact ⟨r, H', by unfold Step1; rw [hg]; exact h1, tops_chain l _ _ h2⟩
    · rename_i j want hg
      split at h
      · rename_i g hb
        obtain ⟨r, H', h1, _, h2⟩ := gopK_sem hg hb h
        exact ⟨r, H', h1, tops_chain l _ _ h2⟩
      · exact h.elim
theorem tops_chainD {ops : List Oper} {K : List AV → List Blk → Prop} : ∀ (l : List Oper) (a : List AV) (H : List Blk), tops P G true ops K l a H → ChainD P G ops K l a H
  | [], a, H, h => h
  | o :: l, a, H, h => by
    unfold tops at h
    split at h
    · rename_i hg
      obtain ⟨r, H', h1, h3, h2⟩ := opK_sem h
      exact ⟨r, H', ⟨by unfold Step1; rw [hg]; exact h1, h3 rfl⟩, tops_chainD l _ _ h2⟩
    · rename_i j want hg
      split at h
      · rename_i g hb
        obtain ⟨r, H', h1, h3, h2⟩ := gopK_sem hg hb h
        exact ⟨r, H', ⟨h1, h3 rfl⟩, tops_chainD l _ _ h2⟩
      · exact h.elim

theorem awp_region {id : Nat} {ops : List Oper} (h : tops P G false ops (Q .normal) ops a H) : AWp P G n0 (.region id ops.toArray false) Q a H := fun S act h1 h2 h3 h4 h5 => by
  refine wp_region ?_
  have := chain_wpOps (Q := fun e => Ends G n0 S H (Q e)) (fun act w q => q) ops 0 a H S act (fun j => by simp) (tops_chain _ _ _ h) h1 h2 h3 (Ext.refl _ _ _) h4 h5
  rw [List.range_eq_range']
  simpa using this
theorem awp_draw {id : Nat} {ops : List Oper} (hm : P.follows .mixedOrders = true) (ho : orderOk ops = true) (h : tops P G true ops (Q .normal) ops a H) : AWp P G n0 (.region id ops.toArray true) Q a H := fun S act h1 h2 h3 h4 h5 => by
  refine wp_region_any hm ?_
  have hA := chainD_any (md := .any) ops 0 (Array.replicate ops.length false) a H (fun j => by simp) ho (fun k o _ hk => by
    exfalso
    rw [Array.getD_eq_getD_getElem?] at hk
    rcases Nat.lt_or_ge k ops.length with q | q
    · rw [Array.getElem?_replicate, if_pos q] at hk; cases hk
    · rw [Array.getElem?_replicate, if_neg (by omega)] at hk; cases hk) (tops_chainD _ _ _ h)
  let S1 : St := S.with (S.w.drewN 1)
  have hok1 : S1.Ok H := ⟨h1.imm, h1.row, h1.map, h1.inj⟩
  have hext : Ext n0 S H S1 H := ⟨rfl, rfl, rfl, Nat.le_refl _, fun _ _ _ => rfl, fun _ _ q => q, fun _ q => .inl q, fun _ q => .inl q, fun _ _ _ _ q => ⟨_, Nat.le_refl _, q, fun _ => rfl⟩, fun _ _ _ q => q, fun q => q⟩
  have := aAny_wp (Q := fun e => Ends G n0 S H (Q e)) (fun act w q => q) ops.length (Array.replicate ops.length false) a H S1 act hA hok1 h2 h3 hext h4 h5
  have e : ops.toArray.size = ops.length := by simp
  rw [e]
  exact this
end
end Go.V
