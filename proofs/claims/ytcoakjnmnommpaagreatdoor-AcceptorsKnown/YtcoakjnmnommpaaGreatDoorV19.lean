/- The library V, part 19: the forms in which a walk is done. -/
import Derived.Test.YtcoakjnmnommpaaGreatDoorV16
set_option linter.unusedVariables false
set_option linter.unusedSimpArgs false
namespace Go.V
open Go Go.RowKit
abbrev Post := Exit → List AV → List Blk → Prop
def AWp (ρ : Bool) (P : Program) (G : Glob) (n0 : Nat) (c : Code) (Q : Post) (a : List AV) (H : List Blk) : Prop :=
 ∀ (ro : Option Nat) (S : St) (act : Act), ro.isSome = ρ → S.Ok H → Globs G S.M → n0 ≤ H.length → RelL (S.env H) a act.tmps.toList → c.wpIn (fen ro) 0 P (fun e => Ends G n0 S H act.defers (Q e)) act S.w
def vbD9 (K : List AV → List Blk → Prop) (Q : Post) : Post
 | .normal, a, H => K a H
 | e, a, H => Q e a H
def kah9 (id : Nat) (Q : Post) : Post
 | .exit id', a, H => if id' = id then Q .normal a H else Q (.exit id') a H
 | e, a, H => Q e a H
def Weak (n0 : Nat) (a : List AV) (H : List Blk) (a1 : List AV) (H1 : List Blk) : Prop :=
 ∀ (S : St) (vs : List Value), S.Ok H → n0 ≤ H.length → RelL (S.env H) a vs → ∃ S1, S1.w = S.w ∧ S1.Ok H1 ∧ Ext n0 S H S1 H1 ∧ RelL (S1.env H1) a1 vs
section
variable {ρ : Bool} {P : Program} {G : Glob} {n0 : Nat} {Q : Post} {a : List AV} {H : List Blk}
theorem Ends.mono {S : St} {K K' : List AV → List Blk → Prop} {ds : List Deferred} {act : Act} {w : World} (h : Ends G n0 S H ds K act w) (hk : ∀ a H, K a H → K' a H) : Ends G n0 S H ds K' act w :=
 let ⟨a', H', S', h1, h2, h3⟩ := h
 ⟨a', H', S', h1, hk _ _ h2, h3⟩
theorem Ends.from {S S1 : St} {H1 : List Blk} {ds ds1 : List Deferred} {K : List AV → List Blk → Prop} {act : Act} {w : World} (he : Ext n0 S H S1 H1) (hm : Marks S ds S1 H1 ds1) (h : Ends G n0 S1 H1 ds1 K act w) : Ends G n0 S H ds K act w :=
 let ⟨a', H', S', h1, h2, h3, h4, h5, h6⟩ := h
 ⟨a', H', S', h1, h2, h3, he.trans h4, h5, hm.trans h6 he.size h4⟩
theorem vs0 {c : Code} {Q' : Post} (h : AWp ρ P G n0 c Q a H) (hq : ∀ e a H, Q e a H → Q' e a H) : AWp ρ P G n0 c Q' a H :=
 fun ro S act hr h1 h2 h3 h4 => wpIn_mono (h ro S act hr h1 h2 h3 h4) fun e _ _ he => he.mono (hq e)
theorem zdG9 {x y : Code} (h : AWp ρ P G n0 x (vbD9 (AWp ρ P G n0 y Q) Q) a H) : AWp ρ P G n0 (.seq x y) Q a H := fun ro S act hr h1 h2 h3 h4 =>
 wpIn_seq (wpIn_mono (h ro S act hr h1 h2 h3 h4) fun e act' w' he => by
  cases e with
  | normal =>
   obtain ⟨a', H', S', rfl, hK, hok, hext, ha, hd⟩ := he;exact wpIn_mono (hK ro S' act' hr hok (h2.mono hext.M) (hext.len h3) ha) fun e _ _ q => q.from hext hd
  | _ => exact he)
theorem kdb9 (h : Q .normal a H) : AWp ρ P G n0 .skip Q a H := fun ro S act hr h1 h2 h3 h4 => wpIn_skip ⟨a, H, S, rfl, h, h1, Ext.refl _ _ _, h4, Marks.refl _ _ _ _⟩
theorem xdG9 (h : Q .ret a H) : AWp ρ P G n0 .ret Q a H := fun ro S act hr h1 h2 h3 h4 => wpIn_ret ⟨a, H, S, rfl, h, h1, Ext.refl _ _ _, h4, Marks.refl _ _ _ _⟩
theorem qdc9 {id : Nat} (h : Q (.exit id) a H) : AWp ρ P G n0 (.exit id) Q a H := fun ro S act hr h1 h2 h3 h4 => wpIn_exit ⟨a, H, S, rfl, h, h1, Ext.refl _ _ _, h4, Marks.refl _ _ _ _⟩
theorem qbp9 {l : Nat} (h : Q .normal a H) : AWp ρ P G n0 (.label l) Q a H := fun ro S act hr h1 h2 h3 h4 => wpIn_label ⟨a, H, S, rfl, h, h1, Ext.refl _ _ _, h4, Marks.refl _ _ _ _⟩
theorem xcu9 {id : Nat} {c : Code} (h : AWp ρ P G n0 c (kah9 id Q) a H) : AWp ρ P G n0 (.block id c) Q a H := fun ro S act hr h1 h2 h3 h4 =>
 wpIn_block (wpIn_mono (h ro S act hr h1 h2 h3 h4) fun e act' w' he => by
  cases e with
  | exit id' =>
   by_cases hid : id' = id
   ·have he' : Ends G n0 S H act.defers (Q .normal) act' w' := he.mono fun a H q => by simpa [kah9, hid] using q
    simpa [Exit.inBlock, hid] using he'
   ·have he' : Ends G n0 S H act.defers (Q (.exit id')) act' w' := he.mono fun a H q => by simpa [kah9, hid] using q
    simpa [Exit.inBlock, hid] using he'
  | _ => exact he)
theorem zdc9 {c : Operand} {x y : Code} {b : Bool} (hc : (ev G a c).strip = .bool b) (hk : (ev G a c).ok = true) (ht : b = true → AWp ρ P G n0 x Q a H) (hf : b = false → AWp ρ P G n0 y Q a H) : AWp ρ P G n0 (.cond c x y) Q a H :=
 fun ro S act hr0 h1 h2 h3 h4 => by
  have hr := (xbo9 (act := act) h2 h4 c).strip hk;rw [hc] at hr;have hv : act.eval c = .bool b := by simpa [Rel] using hr
  exact wpIn_cond_split hv (fun e => ht e ro S act hr0 h1 h2 h3 h4) fun e => hf e ro S act hr0 h1 h2 h3 h4
theorem wdG9 {c : Operand} {x y : Code} (hc : (ev G a c).strip = .anyb) (hk : (ev G a c).ok = true) (ht : AWp ρ P G n0 x Q a H) (hf : AWp ρ P G n0 y Q a H) : AWp ρ P G n0 (.cond c x y) Q a H :=
 fun ro S act hr0 h1 h2 h3 h4 => by
  have hr := (xbo9 (act := act) h2 h4 c).strip hk;rw [hc] at hr;simp only [Rel] at hr;obtain ⟨b, hv⟩ := hr;exact wpIn_cond_split hv (fun e => ht ro S act hr0 h1 h2 h3 h4) fun e => hf ro S act hr0 h1 h2 h3 h4
theorem xdc9 {c : Code} {a1 : List AV} {H1 : List Blk} (hw : Weak n0 a H a1 H1) (h : AWp ρ P G n0 c Q a1 H1) : AWp ρ P G n0 c Q a H := fun ro S act hr0 h1 h2 h3 h4 => by
 obtain ⟨S1, e1, e2, e3, e4⟩ := hw S _ h1 h3 h4;have := h ro S1 act hr0 e2 (h2.mono e3.M) (e3.len h3) e4;rw [e1] at this;exact wpIn_mono this fun e _ _ q => q.from e3 (Marks.refl _ _ _ _)
theorem Weak.refl (a : List AV) (H : List Blk) : Weak n0 a H a H := fun S vs h1 h2 h3 => ⟨S, rfl, h1, Ext.refl _ _ _, h3⟩
theorem Weak.trans {a1 a2 : List AV} {H1 H2 : List Blk} (h : Weak n0 a H a1 H1) (k : Weak n0 a1 H1 a2 H2) : Weak n0 a H a2 H2 := fun S vs h1 h2 h3 => by
 obtain ⟨S1, e1, e2, e3, e4⟩ := h S vs h1 h2 h3;obtain ⟨S2, f1, f2, f3, f4⟩ := k S1 vs e2 (e3.len h2) e4;exact ⟨S2, f1.trans e1, f2, e3.trans f3, f4⟩
theorem wbe9 {F : Fence} {m : Nat} {c : Code} {Q : Exit → Act → World → Prop} (I : Nat → Act → World → Prop) (round : ∀ n a w, I n a w → c.wpIn F m P (Exit.then (fun a' w' => ∃ m, m < n ∧ I m a' w') Q) a w) :
  ∀ n act w, I n act w → (Code.loop c).wpIn F m P Q act w := by
 intro n act w h₀ b k cs hro hb hr;have key : ∀ n act w, I n act w → ∃ e a' w', Q e a' w' ∧ ArrivesIn (Machine.fenced P F) P (lone (b.atR act (.code c :: .inLoop c :: k)) cs w) b k cs e a' w' := by
  intro n;induction n using Nat.strongRecOn with
  | _ n ih =>
   intro act w hI;obtain ⟨e, a₁, w₁, hq, harr⟩ := round n act w hI b (.inLoop c :: k) cs hro hb hr;cases e with
   | normal =>
    obtain ⟨m, hlt, hI₁⟩ := hq;obtain ⟨e₂, a₂, w₂, hq₂, harr₂⟩ := ih m hlt a₁ w₁ hI₁;exact ⟨e₂, a₂, w₂, hq₂, .of_steps (StepsIn.trans harr (.one (fenced_calm hb hr rfl) stepR_inLoop)) harr₂⟩
   | exit id => exact ⟨_, a₁, w₁, hq, .pass (x := .inLoop c) rfl (fun _ _ => .inl (by simp)) harr⟩
   | goto l => exact ⟨_, a₁, w₁, hq, .pass (x := .inLoop c) rfl (fun _ _ => .inl (by simp)) harr⟩
   | ret => exact ⟨_, a₁, w₁, hq, .pass (x := .inLoop c) rfl (fun _ _ => .inl (by simp)) harr⟩
   | panic ch => exact ⟨_, a₁, w₁, hq, .pass (x := .inLoop c) rfl (fun _ _ => .inl (by simp)) harr⟩
   | outgrown => exact ⟨_, a₁, w₁, hq, .pass (x := .inLoop c) rfl (fun _ _ => .inl (by simp)) harr⟩
 obtain ⟨e, a', w', hq, harr⟩ := key n act w h₀;exact ⟨e, a', w', hq, .of_steps (.one (fenced_calm hb hr rfl) stepR_loop) harr⟩
theorem wdc9 {c : Code} (I : Nat → List AV → List Blk → Prop) {n : Nat} {a1 : List AV} {H1 : List Blk} (hw : Weak n0 a H a1 H1) (h0 : I n a1 H1)
  (round : ∀ n a H, I n a H → AWp ρ P G n0 c (vbD9 (fun a' H' => ∃ m a2 H2, m < n ∧ Weak n0 a' H' a2 H2 ∧ I m a2 H2) Q) a H) : AWp ρ P G n0 (.loop c) Q a H := fun ro S act hr0 h1 h2 h3 h4 => by
 obtain ⟨S1, e1, e2, e3, e4⟩ := hw S _ h1 h3 h4;have := wbe9 (F := fen ro) (m := 0) (P := P) (c := c) (Q := fun e => Ends G n0 S H act.defers (Q e)) (fun n act' w => Ends G n0 S H act.defers (I n) act' w) (fun n act' w hI => ?_) n act S.w ⟨a1, H1, S1, e1, h0, e2, e3, e4, Marks.refl _ _ _ _⟩
 ·exact this
 ·obtain ⟨a', H', S', rfl, hK, hok, hext, ha, hd⟩ := hI;refine wpIn_mono (round n a' H' hK ro S' act' hr0 hok (h2.mono hext.M) (hext.len h3) ha) fun e act'' w' he => ?_;cases e with
  | normal =>
   obtain ⟨a2, H2, S2, rfl, ⟨m, a3, H3, hlt, hwk, hI3⟩, hok2, hext2, ha2, hd2⟩ := he;obtain ⟨S3, f1, f2, f3, f4⟩ := hwk S2 _ hok2 (hext2.len (hext.len h3)) ha2;exact ⟨m, hlt, a3, H3, S3, f1, hI3, f2, (hext.trans hext2).trans f3, f4, (hd.trans hd2 hext.size hext2).mono f3⟩
  | _ => exact Ends.from hext hd he
def xaw9 (P : Program) (G : Glob) (dr : Bool) (f : AV) (args : List AV) (H : List Blk) (K : AV → List Blk → Prop) : Prop :=
 match f.strip with
 | .fn g cap => f.ok = true ∧ ka0 P g = true ∧ (args.all AV.ok) = true ∧
   (if dr = true then ∃ r, wd0 P G g (args.map AV.strip ++ cap) H r H ∧ K r H else ∃ r H', wd0 P G g (args.map AV.strip ++ cap) H r H' ∧ K r H')
 | .yld b => f.ok = true ∧ (args.all AV.ok) = true ∧
   (if dr = true then ∃ r, vah9 P G b (args.map AV.strip) H r H ∧ K r H else ∃ r H', vah9 P G b (args.map AV.strip) H r H' ∧ K r H')
 | _ => False
def zbp9 (P : Program) (G : Glob) (dr g : Bool) (f : AV) (args : List AV) (H : List Blk) (K : AV → List Blk → Prop) : Prop :=
 match f.strip with
 | .fn fn cap => (g = true → f.ok = true ∧ (args.all AV.ok) = true) ∧ ka0 P fn = true ∧ ∃ r, (g = true → wd0 P G fn (args.map AV.strip ++ cap) H r H) ∧ K (.opt g r) H
 | .yld b => dr = false ∧ (if g = true then f.ok = true ∧ (args.all AV.ok) = true ∧ ∃ r H', vah9 P G b (args.map AV.strip) H r H' ∧ K r H' else K (.tup []) H)
 | _ => False
def kpF (q : Operand → Bool) : Bool := q (.global 0) && !q (.global 2)
def isVC : Op → Bool
 | .call { callee := .value _, .. } => true
 | _ => false
def ownF (q : Operand → Bool) : Bool := q (.global 0) && !q (.global 3)
def atF (q : Operand → Bool) : Bool := q (.global 0) && !q (.global 4)
def pcF (q : Operand → Bool) : Bool := q (.global 0) && !q (.global 5)
def opK (P : Program) (G : Glob) (dr : Operand → Bool) (o : Op) (ρ : Operand → AV) (H : List Blk) (K : AV → List Blk → Prop) : Prop :=
 match o with
 | .call ⟨.value f, args, ts⟩ => xaw9 P G (dr f) (ρ f) (args.toList.map ρ) H (fun r H' => (kpF dr = true → ∃ E, H' = H ++ E) ∧ (pcF dr = true → ∀ H2, zz0 P G (.call ⟨.value f, args, ts⟩) ρ H2 r H2) ∧ K r H')
 | .makeSlice t l c => if mkF dr = true then ∃ r, Made P (.makeSlice t l c) ρ H r ∧ K r H else if atF dr = true then ∃ b r H', MkAt P (.makeSlice t l c) ρ H b r H' ∧ K r H' else (kf0 P (.makeSlice t l c) ρ H).1 = true ∧ K (kf0 P (.makeSlice t l c) ρ H).2.1 (kf0 P (.makeSlice t l c) ρ H).2.2
 | .buildSlice t n ps => ((we0 P (.buildSlice t n ps) ρ H).1 = true ∧ K (we0 P (.buildSlice t n ps) ρ H).2 H) ∨ (ownF dr = true ∧ (kS0 P (.buildSlice t n ps) ρ H).1 = true ∧ K (kS0 P (.buildSlice t n ps) ρ H).2.1 (kS0 P (.buildSlice t n ps) ρ H).2.2)
 | o => if kE0 o = true then (kf0 P o ρ H).1 = true ∧ K (kf0 P o ρ H).2.1 (kf0 P o ρ H).2.2 else (we0 P o ρ H).1 = true ∧ K (we0 P o ρ H).2 H
def gopK (P : Program) (G : Glob) (dr : Operand → Bool) (g : Bool) (o : Op) (ρ : Operand → AV) (H : List Blk) (K : AV → List Blk → Prop) : Prop :=
 match o with
 | .call { callee := .value f, args, .. } => zbp9 P G (dr f) g (ρ f) (args.toList.map ρ) H K
 | .makeSlice t l c => if mkF dr = true then ∃ r, (g = true → Made P (.makeSlice t l c) ρ H r) ∧ K (.opt g r) H else g = true ∧ (kf0 P (.makeSlice t l c) ρ H).1 = true ∧ K (kf0 P (.makeSlice t l c) ρ H).2.1 (kf0 P (.makeSlice t l c) ρ H).2.2
 | o => if kE0 o = true then g = true ∧ (kf0 P o ρ H).1 = true ∧ K (kf0 P o ρ H).2.1 (kf0 P o ρ H).2.2 else (g = true → (we0 P o ρ H).1 = true) ∧ K (.opt g (we0 P o ρ H).2) H
def tops (P : Program) (G : Glob) (dr : Operand → Bool) (ops : List Oper) (K : List AV → List Blk → Prop) : List Oper → List AV → List Blk → Prop
 | [], a, H => K a H
 | o :: rest, a, H =>
  match o.guard with
  | none => opK P G dr o.op (ev G a) H (fun r H' => tops P G dr ops K rest (putA a o.dst r) H')
  | some (j, want) =>
   match vad9 ops a j want with
   | some g => gopK P G dr g o.op (ev G a) H (fun r H' => tops P G dr ops K rest (putA a o.dst r) H')
   | none => False
theorem xcd9 {t : TypeId} {l c : Operand} {σ : Operand → AV} (h : (kf0 P (.makeSlice t l c) σ H).1 = true) : ∃ E, (kf0 P (.makeSlice t l c) σ H).2.2 = H ++ E := by
 simp only [kf0, l'a] at h ⊢;have h := h.2.2;unfold qaP9 at *;split at h
 ·split at h
  ·exact ⟨_, rfl⟩
  ·cases h
 ·cases h
theorem qbQ9 {dr : Operand → Bool} {o : Op} {σ : Operand → AV} {K : AV → List Blk → Prop} (hnb0 : ¬ isBs o = true) (h : opK P G dr o σ H K) : ∃ r H', zz0 P G o σ H r H' ∧ (effD dr o = false → H' = H) ∧ K r H' ∧ (kpF dr = true → isVC o = true → ∃ E, H' = H ++ E) ∧ (mkF dr = false → atF dr = true → isMk o = true → ∃ b, MkAt P o σ H b r H') ∧ (atF dr = false → isMk o = true → ∃ E, H' = H ++ E) ∧ (pcF dr = true → isVC o = true → ∀ H2, zz0 P G o σ H2 r H2) := by
 have plain : isMk o = false → isVC o = false → (if kE0 o = true then (kf0 P o σ H).1 = true ∧ K (kf0 P o σ H).2.1 (kf0 P o σ H).2.2 else (we0 P o σ H).1 = true ∧ K (we0 P o σ H).2 H) → ∃ r H', zz0 P G o σ H r H' ∧ (effD dr o = false → H' = H) ∧ K r H' ∧ (kpF dr = true → isVC o = true → ∃ E, H' = H ++ E) ∧ (mkF dr = false → atF dr = true → isMk o = true → ∃ b, MkAt P o σ H b r H') ∧ (atF dr = false → isMk o = true → ∃ E, H' = H ++ E) ∧ (pcF dr = true → isVC o = true → ∀ H2, zz0 P G o σ H2 r H2) := by
  intro hm hv h;split at h
  ·rename_i he;exact ⟨_, _, .eff he h.1, fun q => (by simp [effD, he, hm] at q), h.2, fun _ q => (by rw [hv] at q; cases q), fun _ _ q => (by rw [hm] at q; cases q), fun _ q => (by rw [hm] at q; cases q), fun _ q => by rw [hv] at q; cases q⟩
  ·exact ⟨_, _, .pure h.1, fun _ => rfl, h.2, fun _ q => (by rw [hv] at q; cases q), fun _ _ q => (by rw [hm] at q; cases q), fun _ q => (by rw [hm] at q; cases q), fun _ q => by rw [hv] at q; cases q⟩
 unfold opK at h;split at h
 ·rename_i f args ts;unfold xaw9 at h;split at h
  ·rename_i g cap hf;obtain ⟨h1, h2, h3, h4⟩ := h;have hargs : (args.toList.all fun x => (σ x).ok) = true := by simpa [z't] using h3
   have hmap : (args.toList.map σ).map AV.strip = args.toList.map fun x => (σ x).strip := by simp
   split at h4
   ·obtain ⟨r, hc, hk⟩ := h4;rw [hmap] at hc;exact ⟨r, H, .call _ f g cap rfl rfl hf h1 h2 hargs r H hc, fun _ => rfl, hk.2.2, fun q _ => hk.1 q, fun _ _ q => (by cases q), fun _ q => (by cases q), fun q _ => hk.2.1 q⟩
   ·rename_i hdr;obtain ⟨r, H', hc, hk⟩ := h4;rw [hmap] at hc;exact ⟨r, H', .call _ f g cap rfl rfl hf h1 h2 hargs r H' hc, fun q => absurd (by simpa [effD, kE0] using q) hdr, hk.2.2, fun q _ => hk.1 q, fun _ _ q => (by cases q), fun _ q => (by cases q), fun q _ => hk.2.1 q⟩
  ·rename_i b hf;obtain ⟨h1, h3, h4⟩ := h;have hargs : (args.toList.all fun x => (σ x).ok) = true := by simpa [z't] using h3
   have hmap : (args.toList.map σ).map AV.strip = args.toList.map fun x => (σ x).strip := by simp
   split at h4
   ·obtain ⟨r, hc, hk⟩ := h4;rw [hmap] at hc;exact ⟨r, H, .yield _ f b rfl rfl hf h1 hargs r H hc, fun _ => rfl, hk.2.2, fun q _ => hk.1 q, fun _ _ q => (by cases q), fun _ q => (by cases q), fun q _ => hk.2.1 q⟩
   ·rename_i hdr;obtain ⟨r, H', hc, hk⟩ := h4;rw [hmap] at hc;exact ⟨r, H', .yield _ f b rfl rfl hf h1 hargs r H' hc, fun q => absurd (by simpa [effD, kE0] using q) hdr, hk.2.2, fun q _ => hk.1 q, fun _ _ q => (by cases q), fun _ q => (by cases q), fun q _ => hk.2.1 q⟩
  ·exact h.elim
 ·split at h
  ·obtain ⟨r, hm, hk⟩ := h;rename_i hmk0;exact ⟨r, H, .made rfl r hm, fun _ => rfl, hk, fun _ q => (by cases q), fun q _ _ => (by rw [hmk0] at q; cases q), fun _ _ => ⟨[], by simp⟩, fun _ q => by cases q⟩
  ·rename_i hmk;split at h
   ·rename_i hat0;obtain ⟨b, r, H', hm, hk⟩ := h;exact ⟨r, H', .mkat rfl b r H' hm, fun q => (by simp [effD, kE0, isMk, hmk] at q), hk, fun _ q => (by cases q), fun _ _ _ => ⟨b, hm⟩, fun q _ => (by rw [hat0] at q; cases q), fun _ q => by cases q⟩
   ·rename_i hat;exact ⟨_, _, .eff rfl h.1, fun q => (by simp [effD, kE0, isMk, hmk] at q), h.2, fun _ q => (by cases q), fun _ q _ => absurd q hat, fun _ _ => xcd9 h.1, fun _ q => by cases q⟩
 ·exact absurd rfl hnb0
 ·rename_i hne hnm hnb;refine plain ?_ ?_ h
  ·cases o <;> first|rfl|exact absurd rfl (hnm _ _ _)
  ·cases o <;> try rfl
   rename_i c;obtain ⟨c1, c2, c3⟩ := c;cases c1 <;> first|rfl|exact absurd rfl (hne _ _ _)
theorem wcu9 {dr : Operand → Bool} {o : Op} {σ : Operand → AV} {K : AV → List Blk → Prop} (hown : ownF dr = false) (h : opK P G dr o σ H K) : ∃ r H', zz0 P G o σ H r H' ∧ (effD dr o = false → H' = H) ∧ K r H' ∧ (kpF dr = true → isVC o = true → ∃ E, H' = H ++ E) ∧ (mkF dr = false → atF dr = true → isMk o = true → ∃ b, MkAt P o σ H b r H') ∧ (atF dr = false → isMk o = true → ∃ E, H' = H ++ E) ∧ (pcF dr = true → isVC o = true → ∀ H2, zz0 P G o σ H2 r H2) := by
 by_cases hb : isBs o = true
 ·cases o <;> try (cases hb)
  simp only [opK] at h;rcases h with h|h
  ·exact ⟨_, _, .pure h.1, fun _ => rfl, h.2, fun _ q => (by cases q), fun _ _ q => (by cases q), fun _ q => (by cases q), fun _ q => by cases q⟩
  ·rw [hown] at h; cases h.1
 ·exact qbQ9 hb h
theorem vdG9 {dr : Operand → Bool} {o : Op} {σ : Operand → AV} {K : AV → List Blk → Prop} (h : opK P G dr o σ H K) : (∃ r H', zz0 P G o σ H r H' ∧ K r H') ∨ (isBs o = true ∧ (kS0 P o σ H).1 = true ∧ K (kS0 P o σ H).2.1 (kS0 P o σ H).2.2) := by
 by_cases hb : isBs o = true
 ·cases o <;> try (cases hb)
  simp only [opK] at h;rcases h with h|h
  ·exact .inl ⟨_, _, .pure h.1, h.2⟩
  ·exact .inr ⟨rfl, h.2⟩
 ·refine .inl ?_;obtain ⟨r, H', h1, _, h2, _⟩ := qbQ9 hb h;exact ⟨r, H', h1, h2⟩
theorem vbe9 {ops : List Oper} {dr : Operand → Bool} {g : Bool} {o : Oper} {a : List AV} {j : Nat} {want : Bool} (hg : o.guard = some (j, want)) (hb : vad9 ops a j want = some g) {K : AV → List Blk → Prop} (h : gopK P G dr g o.op (ev G a) H K) :
  ∃ r H', vn0 P G ops o a H r H' ∧ (effD dr o.op = false → H' = H) ∧ K r H' := by
 have mk : ∀ r H', ((g = true ∧ zz0 P G o.op (ev G a) H r H') ∨ (g = false ∧ r = .tup [] ∧ H' = H) ∨ (∃ v, r = .opt g v ∧ H' = H ∧ (g = true → zz0 P G o.op (ev G a) H v H))) → vn0 P G ops o a H r H' := by
  intro r H' q;unfold vn0;rw [hg];exact ⟨g, hb, q⟩
 have plain : isMk o.op = false → (if kE0 o.op = true then g = true ∧ (kf0 P o.op (ev G a) H).1 = true ∧ K (kf0 P o.op (ev G a) H).2.1 (kf0 P o.op (ev G a) H).2.2 else (g = true → (we0 P o.op (ev G a) H).1 = true) ∧ K (.opt g (we0 P o.op (ev G a) H).2) H) →
   ∃ r H', vn0 P G ops o a H r H' ∧ (effD dr o.op = false → H' = H) ∧ K r H' := by
  intro hm h;split at h
  ·rename_i he;exact ⟨_, _, mk _ _ (.inl ⟨h.1, .eff he h.2.1⟩), fun q => (by simp [effD, he, hm] at q), h.2.2⟩
  ·exact ⟨_, _, mk _ _ (.inr (.inr ⟨_, rfl, rfl, fun q => .pure (h.1 q)⟩)), fun _ => rfl, h.2⟩
 unfold gopK at h;split at h
 ·rename_i f args ts hop;unfold zbp9 at h;split at h
  ·rename_i fn cap hf;obtain ⟨h1, h2, r, h3, h4⟩ := h;refine ⟨_, _, mk (.opt g r) H (.inr (.inr ⟨r, rfl, rfl, fun q => ?_⟩)), fun _ => rfl, h4⟩;have hargs : (args.toList.all fun x => (ev G a x).ok) = true := by simpa [z't] using (h1 q).2
   have hmap : (args.toList.map (ev G a)).map AV.strip = args.toList.map fun x => (ev G a x).strip := by simp
   have hc := h3 q;rw [hmap] at hc;exact .call _ f fn cap hop rfl hf (h1 q).1 h2 hargs r H hc
  ·rename_i b hf;obtain ⟨hdr, h⟩ := h;split at h
   ·rename_i hgt;obtain ⟨h1, h3, r, H', hc, hk⟩ := h;have hargs : (args.toList.all fun x => (ev G a x).ok) = true := by simpa [z't] using h3
    have hmap : (args.toList.map (ev G a)).map AV.strip = args.toList.map fun x => (ev G a x).strip := by simp
    rw [hmap] at hc;refine ⟨r, H', mk r H' (.inl ⟨hgt, .yield _ f b hop rfl hf h1 hargs r H' hc⟩), fun q => ?_, hk⟩;rw [hop] at q;simp [effD, kE0, hdr] at q
   ·rename_i hgf;exact ⟨_, H, mk (.tup []) H (.inr (.inl ⟨by simpa using hgf, rfl, rfl⟩)), fun _ => rfl, h⟩
  ·exact h.elim
 ·rename_i t l c hop;split at h
  ·obtain ⟨r, hm, hk⟩ := h;exact ⟨_, _, mk (.opt g r) H (.inr (.inr ⟨r, rfl, rfl, fun q => by rw [hop]; exact .made rfl r (hm q)⟩)), fun _ => rfl, hk⟩
  ·rename_i hmk;exact ⟨_, _, mk _ _ (.inl ⟨h.1, by rw [hop]; exact .eff rfl h.2.1⟩), fun q => (by rw [hop] at q; simp [effD, kE0, isMk, hmk] at q), h.2.2⟩
 ·rename_i hne hnm;refine plain ?_ h
  revert hnm
  cases o.op <;> intro hnm <;> first|rfl|exact absurd rfl (hnm _ _ _)
theorem xX0 {ops : List Oper} {dr : Operand → Bool} {K : List AV → List Blk → Prop} : ∀ (l : List Oper) (a : List AV) (H : List Blk), tops P G dr ops K l a H → qdG9 P G ops K l a H
 | [], a, H, h => h
 | o :: l, a, H, h => by
  unfold tops at h;split at h
  ·rename_i hg;rcases vdG9 h with ⟨r, H', h1, h2⟩|⟨h0, h1, h2⟩
   ·exact ⟨r, H', .inl (by unfold vn0; rw [hg]; exact h1), xX0 l _ _ h2⟩
   ·exact ⟨_, _, .inr ⟨hg, h0, h1, rfl, rfl⟩, xX0 l _ _ h2⟩
  ·rename_i j want hg;split at h
   ·rename_i g hb;obtain ⟨r, H', h1, _, h2⟩ := vbe9 hg hb h;exact ⟨r, H', .inl h1, xX0 l _ _ h2⟩
   ·exact h.elim
theorem kad9 {ops : List Oper} {dr : Operand → Bool} (hown : ownF dr = false) {K : List AV → List Blk → Prop} : ∀ (l : List Oper) (a : List AV) (H : List Blk), tops P G dr ops K l a H → qcu9 P G dr ops K l a H
 | [], a, H, h => h
 | o :: l, a, H, h => by
  unfold tops at h;split at h
  ·rename_i hg;obtain ⟨r, H', h1, h3, h2, _⟩ := wcu9 hown h;exact ⟨r, H', ⟨by unfold vn0; rw [hg]; exact h1, h3⟩, kad9 hown l _ _ h2⟩
  ·rename_i j want hg;split at h
   ·rename_i g hb;obtain ⟨r, H', h1, h3, h2⟩ := vbe9 hg hb h;exact ⟨r, H', ⟨h1, h3⟩, kad9 hown l _ _ h2⟩
   ·exact h.elim
def mFlag (q : Operand → Bool) (o : Oper) : Bool := !mkF q && atF q && isMk o.op && o.guard.isNone
def ChainK (P : Program) (G : Glob) (q : Operand → Bool) (ops : List Oper) (K : List AV → List Blk → Prop) : List Oper → List AV → List Blk → Prop
 | [], a, H => K a H
 | o :: rest, a, H => ∃ r H', (kbo9 P G q ops o a H r H' ∧ (kpF q = true → o.guard = none → isVC o.op = true → ∃ E, H' = H ++ E) ∧ (mFlag q o = true → ∃ b, MkAt P o.op (ev G a) H b r H') ∧ (atF q = false → isMk o.op = true → o.guard = none → ∃ E, H' = H ++ E) ∧ (pcF q = true → o.guard = none → isVC o.op = true → ∀ H2, vn0 P G ops o a H2 r H2)) ∧ ChainK P G q ops K rest (putA a o.dst r) H'
theorem qae9 {ops : List Oper} {dr : Operand → Bool} (hown : ownF dr = false) {K : List AV → List Blk → Prop} : ∀ (l : List Oper) (a : List AV) (H : List Blk), tops P G dr ops K l a H → ChainK P G dr ops K l a H
 | [], a, H, h => h
 | o :: l, a, H, h => by
  unfold tops at h;split at h
  ·rename_i hg;obtain ⟨r, H', h1, h3, h2, h4⟩ := wcu9 hown h;exact ⟨r, H', ⟨⟨by unfold vn0; rw [hg]; exact h1, h3⟩, fun p _ q => h4.1 p q, fun q => by
    simp only [mFlag, l'a, l'M] at q;exact h4.2.1 q.1.1.1 q.1.1.2 q.1.2, fun q w _ => h4.2.2.1 q w, fun p _ q H2 => by unfold vn0; rw [hg]; exact h4.2.2.2 p q H2⟩, qae9 hown l _ _ h2⟩
  ·rename_i j want hg;split at h
   ·rename_i g hb;obtain ⟨r, H', h1, h3, h2⟩ := vbe9 hg hb h;exact ⟨r, H', ⟨⟨h1, h3⟩, fun _ q => (by rw [hg] at q; cases q), fun q => (by simp [mFlag, hg] at q), fun _ _ q => (by rw [hg] at q; cases q), fun _ q => by rw [hg] at q; cases q⟩, qae9 hown l _ _ h2⟩
   ·exact h.elim
def noQ : Operand → Bool := fun _ => false
def allQ : Operand → Bool := fun _ => true
def exQ (ts fs : List Nat) : Operand → Bool
 | .tmp t => !ts.contains t
 | .func f => !fs.contains f
 | _ => true
def mxQ : Operand → Bool
 | .global 1 => false
 | _ => true
def kpQ (ts fs : List Nat) : Operand → Bool
 | .tmp t => !ts.contains t
 | .func f => !fs.contains f
 | .global 2 => false
 | _ => true
theorem zeb9 (f : Operand) : noQ f = false := rfl
theorem kdG9 (f : Operand) : allQ f = true := rfl
theorem qaT9 {id : Nat} {ops : List Oper} {dr : Operand → Bool} (h : tops P G dr ops (Q .normal) ops a H) : AWp ρ P G n0 (.region id ops.toArray false) Q a H := fun ro S act hr0 h1 h2 h3 h4 => by
 refine wpIn_region ?_;have := qaE9 (ro := ro) (Q := fun e => Ends G n0 S H act.defers (Q e)) (fun act w q => q) ops 0 a H S act (fun j => by simp) (xX0 _ _ _ h) h1 h2 h3 (Ext.refl _ _ _) h4 (Marks.refl _ _ _ _);rw [List.range_eq_range'];simpa using this
theorem vdc9 {id : Nat} {ops : List Oper} {dr : Operand → Bool} (hown : ownF dr = false) (hm : P.follows .mixedOrders = true) (ho : waE9 dr ops = true) (h : tops P G dr ops (Q .normal) ops a H) : AWp ρ P G n0 (.region id ops.toArray true) Q a H := fun ro S act hr0 h1 h2 h3 h4 => by
 refine wpIn_region_any hm ?_;obtain ⟨T, hT, hlex⟩ := wbD9 ho;have hA := kaS9 (md := .any) hT ops 0 (Array.replicate ops.length false) a H (fun j => by simp) hlex (fun k o _ hk => by
  exfalso;rw [Array.getD_eq_getD_getElem?] at hk;rcases l'i k ops.length with q|q
  ·rw [n'S, if_pos q] at hk; cases hk
  ·rw [n'S, if_neg (by omega)] at hk; cases hk) (kad9 hown _ _ _ h)
 let S1 : St := S.with (S.w.drewN 1)
 have hok1 : S1.Ok H := ⟨h1.imm, h1.row, h1.ob, h1.inj⟩;have hext : Ext n0 S H S1 H := ⟨rfl, rfl, rfl, l'f _, fun _ _ _ => rfl, fun _ _ q => q, fun _ q => .inl q, fun _ q => .inl q, fun _ _ _ _ q => ⟨_, l'f _, q, fun _ => rfl⟩, fun _ _ _ q => q, fun q => q⟩;have := zcu9 (ro := ro) (Q := fun e => Ends G n0 S H act.defers (Q e)) (fun act w q => q) ops.length (Array.replicate ops.length false) a H S1 act hA hok1 h2 h3 hext h4 (Marks.refl _ _ _ _);have e : ops.toArray.size = ops.length := by simp
 rw [e];exact this
end
mutual
def AV.ids (p : Nat → Bool) : AV → Bool
 | .own b _ _ _ => p b
 | .ptr b _ _ _ => p b
 | .mp b => p b
 | .sub b _ _ _ => p b
 | .yld b => p b
 | .agg cs => idsL p cs
 | .tup cs => idsL p cs
 | .sl _ es _ => idsE p es
 | .iptr cs _ => idsL p cs
 | .fn _ cs => idsL p cs
 | .bnd _ cs => idsL p cs
 | .opt _ v => AV.ids p v
 | _ => true
def idsL (p : Nat → Bool) : List AV → Bool
 | [] => true
 | a :: as => AV.ids p a && idsL p as
def idsE (p : Nat → Bool) : List (List AV) → Bool
 | [] => true
 | e :: es => idsL p e && idsE p es
end
structure Env.agree (p : Nat → Bool) (E E' : Env) : Prop where
 M : ∀ k o, E.M k = some o → E'.M k = some o
 sh : ∀ b, p b = true → E'.sh b = E.sh b ∧ E'.μ b = E.μ b ∧ E'.ν b = E.ν b
mutual
theorem Rel.move {p : Nat → Bool} {E E' : Env} (h : E.agree p E') : ∀ (a : AV) (v : Value), a.ids p = true → Rel E a v → Rel E' a v
 | .int k n, v, _, hr => by simpa [Rel] using hr
 | .bool b, v, _, hr => by simpa [Rel] using hr
 | .str s, v, _, hr => by simpa [Rel] using hr
 | .agg cs, v, hi, hr => by
  simp only [Rel, AV.ids] at hr hi ⊢;obtain ⟨vs, hv, hl, h1⟩ := hr;exact ⟨vs, hv, RelL.move h cs vs hi hl, h1⟩
 | .tup cs, v, hi, hr => by
  simp only [Rel, AV.ids] at hr hi ⊢;obtain ⟨vs, hv, hl⟩ := hr;exact ⟨vs, hv, RelL.move h cs vs hi hl⟩
 | .sl s es c, v, hi, hr => by
  simp only [Rel, AV.ids] at hr hi ⊢;obtain ⟨a, cap, hv, h1, h2, h3, h4⟩ := hr;refine ⟨a, cap, hv, h1, h2, h3, ?_⟩;rcases h4 with h4|⟨g, off, ha, he⟩
  ·exact .inl h4
  ·exact .inr ⟨g, off, ha, RelE.move h s es g off hi he⟩
 | .own b n hh c, v, hi, hr => by
  simp only [Rel, AV.ids] at hr hi ⊢;obtain ⟨h1, h2, _⟩ := h.sh b hi;rw [h1, h2]; exact hr
 | .ptr b i o hh, v, hi, hr => by
  simp only [Rel, AV.ids] at hr hi ⊢;obtain ⟨h1, h2, _⟩ := h.sh b hi;rw [h1, h2]; exact hr
 | .iptr cs o, v, hi, hr => by
  simp only [Rel, AV.ids] at hr hi ⊢;obtain ⟨g, off, hv, hc⟩ := hr;exact ⟨g, off, hv, RelC.move h cs g off hi hc⟩
 | .fn f cap, v, hi, hr => by
  simp only [Rel, AV.ids] at hr hi ⊢;obtain ⟨vs, hv, hl⟩ := hr;exact ⟨vs, hv, RelL.move h cap vs hi hl⟩
 | .bnd f cap, v, hi, hr => by
  simp only [Rel, AV.ids] at hr hi ⊢;obtain ⟨vs, hv, hl⟩ := hr;exact ⟨vs, hv, RelL.move h cap vs hi hl⟩
 | .sub b i n hh, v, hi, hr => by
  simp only [Rel, AV.ids] at hr hi ⊢;obtain ⟨h1, h2, _⟩ := h.sh b hi;rw [h1, h2]; exact hr
 | .mp b, v, hi, hr => by
  simp only [Rel, AV.ids] at hr hi ⊢;rw [(h.sh b hi).2.2]; exact hr
 | .opt g w, v, hi, hr => by
  simp only [Rel, AV.ids] at hr hi ⊢;exact ⟨fun hg => Rel.move h w v hi (hr.1 hg), hr.2⟩
 | .lit u, v, _, hr => by simpa [Rel] using hr
 | .anyb, v, _, hr => by simpa [Rel] using hr
 | .anyi k, v, _, hr => by simpa [Rel] using hr
 | .err, v, _, hr => by simpa [Rel] using hr
 | .top, v, _, hr => by simp [Rel]
 | .yld b, v, hi, hr => by
  simp only [Rel, AV.ids] at hr hi ⊢;rw [(h.sh b hi).2.2]; exact hr
theorem RelL.move {p : Nat → Bool} {E E' : Env} (h : E.agree p E') : ∀ (as : List AV) (vs : List Value), idsL p as = true → RelL E as vs → RelL E' as vs
 | [], vs, _, hr => by simpa [RelL] using hr
 | a :: as, vs, hi, hr => by
  simp only [RelL, idsL, l'a] at hr hi ⊢;obtain ⟨u, us, hv, h1, h2⟩ := hr;exact ⟨u, us, hv, Rel.move h a u hi.1 h1, RelL.move h as us hi.2 h2⟩
theorem RelC.move {p : Nat → Bool} {E E' : Env} (h : E.agree p E') : ∀ (as : List AV) (g off : Nat), idsL p as = true → RelC E as g off → RelC E' as g off
 | [], g, off, _, hr => by simp [RelC]
 | a :: as, g, off, hi, hr => by
  simp only [RelC, idsL, l'a] at hr hi ⊢;obtain ⟨⟨u, hu, h1, hr1⟩, hr2⟩ := hr;exact ⟨⟨u, kaQ9 h.M hu, h1, Rel.move h a u hi.1 hr1⟩, RelC.move h as g (off + 1) hi.2 hr2⟩
theorem RelE.move {p : Nat → Bool} {E E' : Env} (h : E.agree p E') (s : Nat) : ∀ (es : List (List AV)) (g off : Nat), idsE p es = true → RelE E s es g off → RelE E' s es g off
 | [], g, off, _, hr => by simp [RelE]
 | e :: es, g, off, hi, hr => by
  simp only [RelE, idsE, l'a] at hr hi ⊢;exact ⟨hr.1, RelC.move h e g off hi.1 hr.2.1, RelE.move h s es g (off + s) hi.2 hr.2.2⟩
end
def waw9 : Nat → Bool := fun _ => false
def AV.closed (v : AV) : Bool := v.ids waw9
theorem qG0 {E E' : Env} (h : ∀ k o, E.M k = some o → E'.M k = some o) : E.agree waw9 E' := ⟨h, fun b hb => by cases hb⟩
section lists
variable {p : Nat → Bool}
theorem wX0 (as : List AV) : idsL p as = true ↔ ∀ a ∈ as, a.ids p = true := by
 induction as with
 | nil => simp [idsL]
 | cons a as ih => simp [idsL, ih]
theorem zG0 (es : List (List AV)) : idsE p es = true ↔ ∀ e ∈ es, idsL p e = true := by
 induction es with
 | nil => simp [idsE]
 | cons e es ih => simp [idsE, ih]
theorem xA0 {α : Type} (xs : List α) (f : α → List AV) (h : ∀ x, idsL p (f x) = true) : idsE p (xs.map f) = true := by
 rw [zG0]; intro e he;obtain ⟨x, _, rfl⟩ := l'B.1 he;exact h x
end lists
section
variable {P : Program} {G : Glob}
def PC (P : Program) (G : Glob) (f : FuncId) (args : List AV) (r : AV) : Prop := wd0 P G f args [] r []
theorem kbD9 {f : FuncId} {args : List AV} {r : AV} (h : PC P G f args r) (hc : idsL waw9 args = true) (H : List Blk) : wd0 P G f args H r H := fun S vals hok hG ha => by
 let S0 : St := ⟨S.M, fun _ => none, fun _ => none, S.w⟩
 have hat0 : ∀ (T : St) b, T.at [] b = none := fun T b => by simp [St.at]
 have hok0 : S0.Ok [] := ⟨hok.imm, fun b s t es hb => by simp at hb, fun b ob0 hb => by simp at hb, fun b b' g hb => by rw [hat0] at hb; cases hb⟩;have hargs : RelL (S0.env []) args vals := RelL.move (qG0 (E := S.env H) (E' := S0.env []) fun k o q => q) _ _ hc ha;refine (h S0 vals hok0 hG hargs).mono fun e w' hh => ?_;obtain ⟨v, S1, rfl, rfl, hok1, hext, hr⟩ := hh;have howns : ∀ (T : St) k, ¬ T.Owns [] k := fun T k ⟨b, hb⟩ => by rw [hat0] at hb; cases hb
 let S' : St := ⟨S1.M, S.μ, S.ν, S1.w⟩
 have hsame : ∀ k, k < S.w.heap.size → S1.w.heap[k]? = S.w.heap[k]? := fun k hk => hext.keep k hk (howns _ _);have hMn : ∀ g, g < S.w.heap.size → S.M g = none → S1.M g = none := fun g hg hn => by
  cases hM : S1.M g with
  | none => rfl
  | some o =>
   rcases hext.dom g (by rw [hM]; simp) with q|q|q
   ·exact absurd hn q
   ·exact absurd q (howns _ _)
   ·exact absurd hg (by show ¬ g < S0.w.heap.size; omega)
 have hle : (S.env H).le (S'.env H) := ⟨hext.M, fun b s cur hb => ⟨cur, l'f _, hb, fun _ => rfl⟩, fun b g hb => hb⟩;have hok' : S'.Ok H := by
  refine ⟨hok1.imm, fun b s t es hb => ?_, fun b ob0 hb => ?_, fun b b' g hb hb' => hok.inj b b' g hb hb'⟩
  ·rcases hok.row b s t es hb with q|⟨g, k, cs, h1, h2, h3, h4, h5, h6, h7⟩
   ·exact .inl q
   ·have hlt := (l'l.1 h3).1;exact .inr ⟨g, k, cs, h1, hMn g hlt h2, (hsame g hlt).trans h3, h4, h5, h6, h7.mono hle⟩
  ·obtain ⟨g, ob1, h1, h2, h3, h4⟩ := hok.ob b ob0 hb;have hlt := (l'l.1 h3).1;exact ⟨g, ob1, h1, hMn g hlt h2, (hsame g hlt).trans h3, h4.mono hle⟩
 refine ⟨v, S', rfl, rfl, hok', ⟨hext.os, hext.tape, hext.output, hext.size, fun k hk _ => hsame k hk, hext.M, fun k hk => ?_, fun k hk => .inl hk, fun b s cur _ hb => ⟨cur, l'f _, hb, fun _ => rfl⟩, fun b g _ hb => hb, fun q => q⟩, ?_⟩
 ·rcases hext.dom k hk with q|q|q
  ·exact .inl q
  ·exact absurd q (howns _ _)
  ·exact .inr (.inr q)
 ·have hle2 : (S1.env []).le (S'.env H) := ⟨fun k o q => q, fun b s cur hb => by simp [St.env, shOf] at hb, fun b g hb => by simp [St.env, mpOf] at hb⟩;exact Rel.mono hle2 r v hr
def vaw9 (P : Program) (a : List AV) (H : List Blk) : ResultVar → Bool × AV
 | .tmp t => ((getA a t).ok, (getA a t).strip)
 | .cell b t => ((getA a b).ok && (zab9 P H t (getA a b).strip).1, (zab9 P H t (getA a b).strip).2)
def ares (P : Program) (rs : List ResultVar) (a : List AV) (H : List Blk) : Bool × AV :=
 match rs with
 | [r] => vaw9 P a H r
 | rs => (rs.all fun r => (vaw9 P a H r).1, .tup (rs.map fun r => (vaw9 P a H r).2))
theorem kdc9 {S : St} {H : List Blk} {a : List AV} {ts : Array Value} (hok : S.Ok H) (ha : RelL (S.env H) a ts.toList) (r : ResultVar) (h : (vaw9 P a H r).1 = true) :
  ∃ v, (match r with|.tmp t => pure (ts.getD t undef)|.cell a t => do loadVar t (← asAddr (ts.getD a undef)) : Sem Value).run P S.w = .ok v S.w ∧ Rel (S.env H) (vaw9 P a H r).2 v := by
 cases r with
 | tmp t => exact ⟨_, rfl, (qay9 ha t).strip h⟩
 | cell b t =>
  simp only [vaw9, l'a] at h ⊢;have hr := (qay9 ha b).strip h.1;obtain ⟨u, hu, hru⟩ := qbP9 (P := P) hok hr h.2;refine ⟨u, ?_, hru⟩;have hp : ∃ ad, ts.getD b undef = .pointer (some ad) := by
   have h2 := h.2;unfold zab9 at h2;cases hT : kb0 P t with
   | none => rw [hT] at h2; cases h2
   | some T =>
    simp only [hT] at h2;generalize (getA a b).strip = x at h2 hr;cases x with
    | ptr b' i o hh =>
     simp only at h2;cases hb : H[b']? with
     | none => rw [hb] at h2; cases h2
     | some B =>
      cases B with
      | ob _ => rw [hb] at h2; cases h2
      | row s bt es =>
       simp only [hb, l'a, decide_eq_true_eq] at h2;obtain ⟨s', g, k, _, _, hv⟩ := kH0 hr (by simp [zi0, zn0 hb, h2.1.1]);exact ⟨_, hv⟩
    | iptr cs o =>
     simp only [Rel] at hr;obtain ⟨g, off, hv, _⟩ := hr;exact ⟨_, hv⟩
    | _ => simp only at h2; cases h2
  obtain ⟨ad, had⟩ := hp;rw [had] at hu ⊢;simpa [Instr.loadAt, Instr.sureAddr, asAddr] using hu
theorem vcu9 {S : St} {H : List Blk} {a : List AV} {ts : Array Value} {fn : Func} (hok : S.Ok H) (ha : RelL (S.env H) a ts.toList) (h : (ares P fn.results.toList a H).1 = true) :
  ∃ v, (results fn ts).run P S.w = .ok v S.w ∧ Rel (S.env H) (ares P fn.results.toList a H).2 v := by
 have hm : ∀ rs : List ResultVar, (rs.all fun r => (vaw9 P a H r).1) = true → ∃ vs : List Value, (rs.mapM fun r => (match r with|.tmp t => pure (ts.getD t undef)|.cell a t => do loadVar t (← asAddr (ts.getD a undef)) : Sem Value)).run P S.w = .ok vs S.w ∧ RelL (S.env H) (rs.map fun r => (vaw9 P a H r).2) vs := by
  intro rs;induction rs with
  | nil => intro _; exact ⟨[], by simp, by simp [RelL]⟩
  | cons r rs ih =>
   intro hall;simp only [List.all_cons, l'a] at hall;obtain ⟨v, hv, hr⟩ := kdc9 hok ha r hall.1;obtain ⟨vs, hvs, hrs⟩ := ih hall.2;refine ⟨v :: vs, ?_, ?_⟩
   ·simp only [List.mapM_cons, Sem.run_bind, hv, hvs, Result.andThen_ok, Sem.run_pure]
   ·simp only [List.map_cons, RelL]; exact ⟨v, vs, rfl, hr, hrs⟩
 have hall : (fn.results.toList.all fun r => (vaw9 P a H r).1) = true := by
  unfold ares at h;split at h
  ·rename_i r hrs; simp only [hrs, List.all_cons, List.all_nil, n'W]; exact h
  ·exact h
 obtain ⟨vs, hvs, hrs⟩ := hm _ hall;have hl : vs.length = fn.results.toList.length := by rw [← hrs.length]; simp
 have hrun : (results fn ts).run P S.w = .ok (if h : vs.toArray.size = 1 then vs.toArray[0] else .tuple vs.toArray) S.w := by
  unfold results;rw [Array.mapM_eq_mapM_toList];simp only [Sem.run_bind, Sem.run_map]
  erw [hvs]
  rfl
 rw [hrun];refine ⟨_, rfl, ?_⟩;unfold ares;split
 ·rename_i r hrs';rw [hrs'] at hrs hl;simp only [List.map_cons, List.map_nil, RelL] at hrs;obtain ⟨u, us, rfl, hr, rfl⟩ := hrs;simpa using hr
 ·rename_i hne;have : ¬ vs.toArray.size = 1 := by
   intro hv;simp only [z'A] at hv;rw [hl] at hv;obtain ⟨r, hr⟩ := List.length_eq_one_iff.1 hv;exact hne r hr
  rw [dif_neg this];simp only [Rel];exact ⟨vs, rfl, hrs⟩
def Closes (n0 : Nat) (H' : List Blk) (v : AV) (r : AV) (Hf : List Blk) : Prop :=
 ∀ (S' : St) (u : Value), S'.Ok H' → n0 ≤ H'.length → Rel (S'.env H') v u → ∃ S'', S''.w = S'.w ∧ S''.Ok Hf ∧ Ext n0 S' H' S'' Hf ∧ Rel (S''.env Hf) r u
def Fin (P : Program) (fn : Func) (n0 : Nat) (r : AV) (Hf : List Blk) : Post := fun e a' H' =>
 (e = .normal ∨ e = .ret) ∧ (ares P fn.results.toList a' H').1 = true ∧ Closes n0 H' (ares P fn.results.toList a' H').2 r Hf
def St.shut (S : St) (g : Nat) (o : Obj) : St := { S with w := S.w.putObj g o }
theorem qbE9 {S : St} {H : List Blk} {g : Nat} (hok : S.Ok H) (hf : S.Free H g) (o : Obj) : (S.shut g o).Ok H := by
 have hne : ∀ b k, S.at H b = some k → k ≠ g := fun b k hb e => hf.1 ⟨b, by rw [← e]; exact hb⟩;have hother : ∀ k, k ≠ g → (S.shut g o).w.heap[k]? = S.w.heap[k]? := fun k hk => World.putObj_heap_other hk;refine ⟨fun k o' hk => ?_, fun b s t es hb => ?_, fun b x hb => ?_, hok.inj⟩
 ·have : k ≠ g := fun e => by rw [e] at hk; exact absurd hk (by show ¬ S.M g = some o'; rw [hf.2]; simp)
  exact (hother k this).trans (hok.imm k o' hk)
 ·rcases hok.row b s t es hb with q|⟨g', k, cs, h1, h2, h3, h4⟩
  ·exact .inl q
  ·exact .inr ⟨g', k, cs, h1, h2, (hother g' (hne b g' (by simp [St.at, hb, h1]))).trans h3, h4⟩
 ·obtain ⟨g', ob1, h1, h2, h3, h4⟩ := hok.ob b x hb;exact ⟨g', ob1, h1, h2, (hother g' (hne b g' (by simp [St.at, hb, h1]))).trans h3, h4⟩
theorem qdd9 {S0 S : St} {n0 : Nat} {H0 H : List Blk} {g : Nat} (h : Ext n0 S0 H0 S H) (hg : S0.w.heap.size ≤ g) (o : Obj) : Ext n0 S0 H0 (S.shut g o) H :=
 { h with
  size := by simpa [St.shut] using h.size
  keep := fun k hk hn => (World.putObj_heap_other (by omega)).trans (h.keep k hk hn) }
theorem qT0 {S0 : St} {n0 : Nat} {H0 H : List Blk} {fn : Func} {ts : Array Value} {R : Ending → World → Prop} : ∀ (Ds : List Nat) (S : St), S.Ok H → Ext n0 S0 H0 S H → Ds.Pairwise (fun x y => y < x) → (∀ g ∈ Ds, S0.w.heap.size ≤ g ∧ S.Free H g ∧ S.w.heap[g]? = some (.deferred (some []))) →
  (∀ S' : St, S'.Ok H → Ext n0 S0 H0 S' H → S'.M = S.M → S'.μ = S.μ → S'.ν = S.ν → ∃ v, (results fn ts).run P S'.w = .ok v S'.w ∧ R (.returned v) S'.w) → LeavesInM Fence.wide 0 P fn ts R (Ds.map mark) .returning S.w
 | [], S, hok, hext, _, _, hR => by
  obtain ⟨v, h1, h2⟩ := hR S hok hext rfl rfl rfl;exact ⟨v, h1, h2⟩
 | g :: Ds, S, hok, hext, hp, hq, hR => by
  obtain ⟨q1, q2, q3⟩ := hq g (by simp);rw [z'b] at hp;refine ⟨by simp, .inl ⟨g, _, rfl, run_takeDeferred q3, ?_⟩⟩;exact qT0 Ds (S.shut g (.deferred none)) (qbE9 hok q2 _) (qdd9 hext q1 _) hp.2 (fun g' hg' => by
   obtain ⟨r1, r2, r3⟩ := hq g' (by simp [hg']);have := hp.1 g' hg';exact ⟨r1, r2, (World.putObj_heap_other (by omega)).trans r3⟩) hR
theorem qai9 {f : FuncId} {fn : Func} {c : Code} {args : List AV} {H Hf : List Blk} {r : AV} (hf : P.funcs[f]? = some fn) (hb : fn.body = some c)
  (h : AWp false P G H.length c (Fin P fn H.length r Hf) (args ++ List.replicate (fn.ntmps - args.length) (.tup [])) H) : wd0 P G f args H r Hf := fun S vals hok hG ha => by
 have hl := ha.length;have hw := h none S { tmps := vals.toArray ++ Array.replicate (fn.ntmps - vals.toArray.size) undef, defers := [] } rfl hok hG (l'f _) (by
  simp only [Array.toList_append, Array.toList_replicate, z'A, hl];exact ha.append (RelL.replicate (by simp [Rel, RelL, undef]) _))
 refine (callsIn_wide (n := 0)).1 (callsIn_of_wp_marks (F := Fence.wide) hf hb trivial (wpIn_mono hw fun e act w hE => ?_));obtain ⟨a', H', S', rfl, ⟨he, har, hcl⟩, hok', hext, ha', Ds, hd, hp, hq⟩ := hE;have key : LeavesInM Fence.wide 0 P fn act.tmps (fun e w' => ∃ v S', e = .returned v ∧ S'.w = w' ∧ S'.Ok Hf ∧ Ext H.length S H S' Hf ∧ Rel (S'.env Hf) r v) act.defers .returning S'.w := by
  rw [hd, l'R];refine qT0 Ds S' hok' hext hp hq fun T tok text tM tμ tν => ?_;have henv : T.env H' = S'.env H' := by simp only [St.env, tM, tμ, tν]
  obtain ⟨v, hv, hr⟩ := vcu9 tok (by rw [henv]; exact ha') har;obtain ⟨S'', e1, e2, e3, e4⟩ := hcl T v tok (hext.len (l'f _)) hr;exact ⟨v, hv, v, S'', rfl, e1, e2, text.trans e3, e4⟩
 rcases he with rfl|rfl
 ·exact key
 ·exact key
def zh0 (H : List Blk) : Nat → AV → AV
 | 0, v => v
 | d + 1, .own b n h c =>
  match H[b]? with
  | some (.row s _ es) => .sl s ((es.take n).map fun e => e.map (zh0 H d)) c
  | _ => .own b n h c
 | d + 1, .ptr b i o h =>
  match H[b]? with
  | some (.row _ _ es) => .iptr ((es.getD i []).map (zh0 H d)) o
  | _ => .ptr b i o h
 | d + 1, .fn f cap => .fn f (cap.map (zh0 H d))
 | _ + 1, v => v
def okC (H : List Blk) : Nat → AV → Bool
 | 0, v => v.closed
 | d + 1, .own b n h c => zi0 H b h && (match H[b]? with|some (.row _ _ es) => (es.take n).all fun e => e.all (okC H d)|_ => false)
 | d + 1, .ptr b i o h => zi0 H b h && (match H[b]? with|some (.row _ _ es) => decide (i < es.length) && (es.getD i []).all (okC H d)|_ => false)
 | d + 1, .fn f cap => cap.all (okC H d)
 | _ + 1, v => v.closed
def xq0 (H : List Blk) (d : Nat) : AV → AV
 | .agg cs => .agg (cs.map (zh0 H d))
 | v => zh0 H d v
def okA (H : List Blk) (d : Nat) : AV → Bool
 | .agg cs => cs.all (okC H d)
 | v => okC H d v
def zT0 (H : List Blk) (d : Nat) : AV → AV
 | .tup vs => .tup (vs.map (xq0 H d))
 | v => xq0 H d v
def okR (H : List Blk) (d : Nat) : AV → Bool
 | .tup vs => vs.all (okA H d)
 | v => okA H d v
open Classical in
noncomputable def St.freeze (S : St) (H : List Blk) : St := { S with M := fun k => if S.Owns H k then S.w.heap[k]? else S.M k, μ := fun _ => none, ν := fun _ => none }
theorem zai9 {S : St} {H : List Blk} (hok : S.Ok H) {k : Nat} {o : Obj} (h : S.M k = some o) : (S.freeze H).M k = some o := by
 simp only [St.freeze];split
 ·exact hok.imm k o h
 ·exact h
theorem qJ0 {S : St} {H : List Blk} {k : Nat} (h : S.Owns H k) : (S.freeze H).M k = S.w.heap[k]? := by
 simp only [St.freeze]; rw [if_pos h]
theorem xai9 {S : St} {H : List Blk} (hok : S.Ok H) : (S.freeze H).Ok [] := by
 refine ⟨fun k o hk => ?_, fun b s t es hb => by simp at hb, fun b ob0 hb => by simp at hb, fun b b' g hb => by simp [St.at] at hb⟩;simp only [St.freeze] at hk ⊢;split at hk
 ·exact hk
 ·exact hok.imm k o hk
theorem zaT9 {S : St} {H : List Blk} (hok : S.Ok H) : Ext 0 S H (S.freeze H) [] where
 os := rfl
 tape := rfl
 output := rfl
 size := l'f _
 keep _ _ _ := rfl
 M k o h := zai9 hok h
 dom k h := by
  simp only [St.freeze] at h;split at h
  ·rename_i ho; exact .inr (.inl ho)
  ·exact .inl h
 own k h := by obtain ⟨b, hb⟩ := h; simp [St.at] at hb
 sh b s cur hb := by omega
 ν b g hb := by omega
 len _ := by omega
theorem xT0 {S : St} {H : List Blk} (hok : S.Ok H) : ∀ (d : Nat) (v : AV) (u : Value), okC H d v = true → Rel (S.env H) v u → Rel ((S.freeze H).env []) (zh0 H d v) u
 | 0, v, u, h, hr => by
  simp only [okC, zh0] at *;exact Rel.move (qG0 fun k o => zai9 hok) v u h hr
 | d + 1, v, u, h, hr => by
  have other : okC H (d + 1) v = v.closed → zh0 H (d + 1) v = v → Rel ((S.freeze H).env []) (zh0 H (d + 1) v) u := fun h1 h2 => by
   rw [h2]; rw [h1] at h;exact Rel.move (qG0 fun k o => zai9 hok) v u h hr
  cases v with
  | own b n hh c =>
   simp only [okC, l'a] at h;cases hb : H[b]? with
   | none => rw [hb] at h; cases h.2
   | some B =>
    cases B with
    | ob _ => rw [hb] at h; cases h.2
    | row s t es =>
     simp only [hb] at h;simp only [zh0, hb];obtain ⟨s', hs, hn, hcase⟩ := xs0 hr h.1;rw [zn0 hb] at hs; injection hs with hs; injection hs with e1 e2; subst e1
     rcases hcase with ⟨_, ⟨a0, rfl⟩, rfl, hc⟩|⟨g, k, cap, hg, rfl, hncap, hcapk, hcn, hcs⟩
     ·simp only [Rel];refine ⟨a0, 0, by simp, by simp, by simp [maxLen], fun k hk => ?_, .inl (by simp)⟩;rcases hc with rfl|rfl
      ·cases hk
      ·injection hk
     ·obtain ⟨g0, k0, cs, q1, q2, q3, q4, q5, q6, q7⟩ := (hok.row b s t es hb).resolve_left (fun q => by rw [q.1] at hg; cases hg);rw [hg] at q1; injection q1 with q1; injection q1 with e1 e3; subst e1; subst e3
      have hM : (S.freeze H).M g = some (.cells cs t (0, 0)) := by
       rw [qJ0 ⟨b, by simp [St.at, hb, hg]⟩]; exact q3
      have hlen : ((es.take n).map fun e => e.map (zh0 H d)).length = n := by simp; omega
      simp only [Rel];refine ⟨some ⟨g, 0, none⟩, cap, by rw [hlen], by rw [hlen]; exact hncap, by omega, fun k hk => hcs k hk, .inr ⟨g, 0, rfl, RelE.mk fun i e hi => ?_⟩⟩;rw [l'p, l'E] at hi;split at hi
      ·cases hei : es[i]? with
       | none => rw [hei] at hi; cases hi
       | some e0 =>
        rw [hei] at hi;simp only [Option.map_some, Option.some.injEq] at hi;subst hi;obtain ⟨l1, l2⟩ := q7 i e0 hei;refine ⟨by simpa using l1, RelC.mk fun j a hj => ?_⟩;rw [l'p] at hj;cases hej : e0[j]? with
        | none => rw [hej] at hj; cases hj
        | some a0 =>
         rw [hej] at hj;simp only [Option.map_some, Option.some.injEq] at hj;subst hj;obtain ⟨w, hw, ho, hrw⟩ := l2 j a0 hej;refine ⟨w, ?_, ho, xT0 hok d a0 w ?_ hrw⟩
         ·show zs0 (S.freeze H).M g (0 + i * s + j) = some w;simp only [zs0, hM, l'm];exact hw
         ·have h2 := l'j.1 h.2 e0 (l'q (by rw [l'E]; rw [if_pos (by assumption)]; exact hei));exact l'j.1 h2 a0 (l'q hej)
      ·cases hi
  | ptr b i o hh =>
   simp only [okC, l'a] at h;cases hb : H[b]? with
   | none => rw [hb] at h; cases h.2
   | some B =>
    cases B with
    | ob _ => rw [hb] at h; cases h.2
    | row s t es =>
     simp only [hb, l'a, decide_eq_true_eq] at h;simp only [zh0, hb];obtain ⟨s', g, k, hs, hg, rfl⟩ := kH0 hr h.1;rw [zn0 hb] at hs; injection hs with hs; injection hs with e1 e2; subst e1
     obtain ⟨g0, k0, cs, q1, q2, q3, q4, q5, q6, q7⟩ := (hok.row b s t es hb).resolve_left (fun q => by rw [q.1] at hg; cases hg);rw [hg] at q1; injection q1 with q1; injection q1 with e1 e3; subst e1; subst e3
     have hM : (S.freeze H).M g = some (.cells cs t (0, 0)) := by
      rw [qJ0 ⟨b, by simp [St.at, hb, hg]⟩]; exact q3
     have hei : es[i]? = some (es.getD i []) := by
      rw [l'b, l'e h.2.1]; rfl
     obtain ⟨l1, l2⟩ := q7 i _ hei;simp only [Rel];refine ⟨g, i * s, rfl, RelC.mk fun j a hj => ?_⟩;rw [l'p] at hj;cases hej : (es.getD i [])[j]? with
     | none => rw [hej] at hj; cases hj
     | some a0 =>
      rw [hej] at hj;simp only [Option.map_some, Option.some.injEq] at hj;subst hj;obtain ⟨w, hw, ho, hrw⟩ := l2 j a0 hej;refine ⟨w, ?_, ho, xT0 hok d a0 w (l'j.1 h.2.2 a0 (l'q hej)) hrw⟩;show zs0 (S.freeze H).M g (i * s + j) = some w;simp only [zs0, hM];exact hw
  | fn f cap =>
   simp only [okC] at h;simp only [zh0, Rel] at hr ⊢;obtain ⟨vs, rfl, hl⟩ := hr;refine ⟨vs, rfl, RelL.mk (by simpa using hl.length) fun i a v ha hv => ?_⟩;rw [l'p] at ha;cases hx : cap[i]? with
   | none => rw [hx] at ha; cases ha
   | some x =>
    rw [hx] at ha;simp only [Option.map_some, Option.some.injEq] at ha;subst ha;obtain ⟨v', hv', hr'⟩ := hl.get hx;rw [hv] at hv'; injection hv' with hv'; subst hv'
    exact xT0 hok d x v (l'j.1 h x (l'q hx)) hr'
  | _ => exact other rfl rfl
theorem wai9 {S : St} {H : List Blk} (hok : S.Ok H) (f : AV → AV) (k : AV → Bool) (hf : ∀ v u, k v = true → Rel (S.env H) v u → Rel ((S.freeze H).env []) (f v) u) {as : List AV} {vs : List Value} (h : as.all k = true) (hr : RelL (S.env H) as vs) : RelL ((S.freeze H).env []) (as.map f) vs := by
 refine RelL.mk (by simpa using hr.length) fun i a v ha hv => ?_;rw [l'p] at ha;cases hx : as[i]? with
 | none => rw [hx] at ha; cases ha
 | some x =>
  rw [hx] at ha;simp only [Option.map_some, Option.some.injEq] at ha;subst ha;obtain ⟨v', hv', hr'⟩ := hr.get hx;rw [hv] at hv'; injection hv' with hv'; subst hv'
  exact hf x v (l'j.1 h x (l'q hx)) hr'
theorem vai9 {S : St} {H : List Blk} (hok : S.Ok H) (d : Nat) (v : AV) (u : Value) (h : okA H d v = true) (hr : Rel (S.env H) v u) : Rel ((S.freeze H).env []) (xq0 H d v) u := by
 have other : okA H d v = okC H d v → xq0 H d v = zh0 H d v → Rel ((S.freeze H).env []) (xq0 H d v) u := fun h1 h2 => by
  rw [h2]; rw [h1] at h;exact xT0 hok d v u h hr
 cases v with
 | agg cs =>
  simp only [okA, xq0, Rel] at *;obtain ⟨vs, rfl, hl, h1⟩ := hr;exact ⟨vs, rfl, wai9 hok _ _ (xT0 hok d) h hl, h1⟩
 | _ => exact other rfl rfl
theorem kcu9 {S : St} {H : List Blk} (hok : S.Ok H) (d : Nat) (v : AV) (u : Value) (h : okR H d v = true) (hr : Rel (S.env H) v u) : Rel ((S.freeze H).env []) (zT0 H d v) u := by
 have other : okR H d v = okA H d v → zT0 H d v = xq0 H d v → Rel ((S.freeze H).env []) (zT0 H d v) u := fun h1 h2 => by
  rw [h2]; rw [h1] at h;exact vai9 hok d v u h hr
 cases v with
 | tup cs =>
  simp only [okR, zT0, Rel] at *;obtain ⟨vs, rfl, hl⟩ := hr;exact ⟨vs, rfl, wai9 hok _ _ (vai9 hok d) h hl⟩
 | _ => exact other rfl rfl
theorem wcd9 {H' : List Blk} {v : AV} (d : Nat) (h : okR H' d v = true) : Closes 0 H' v (zT0 H' d v) [] := fun S' u hok _ hr =>
 ⟨S'.freeze H', rfl, xai9 hok, zaT9 hok, kcu9 hok d v u h hr⟩
end
section
variable {ρ : Bool} {P : Program} {G : Glob} {n0 : Nat} {Q : Post} {a : List AV} {H : List Blk}
def xaT9 (a : List AV) : Nat → List AV → Prop
 | _, [] => True
 | k, x :: xs => getA a k = x ∧ xaT9 a (k + 1) xs
theorem wT0 (pre args : List AV) (m : Nat) : xaT9 (pre ++ (args ++ List.replicate m (.tup []))) pre.length args := by
 induction args generalizing pre with
 | nil => trivial
 | cons x xs ih =>
  refine ⟨by simp [getA, l'b], ?_⟩;have := ih (pre ++ [x]);simpa using this
def eqv1 : List AV → List AV → Prop
 | [], [] => True
 | a :: as, b :: bs => (match a, b with|.sl s es c, .sl s' es' c' => (es = [] ∨ s = s') ∧ es = es' ∧ c = c'|a, b => a = b) ∧ eqv1 as bs
 | _, _ => False
def eqvL : List AV → List AV → Prop
 | [], [] => True
 | a :: as, b :: bs => (match a, b with|.sl s es c, .sl s' es' c' => (es = [] ∨ s = s') ∧ es = es' ∧ c = c'|.agg xs, .agg ys => eqv1 xs ys|a, b => a = b) ∧ eqvL as bs
 | _, _ => False
def AV.eqv : AV → AV → Prop
 | .sl s es c, b => match b with|.sl s' es' c' => (es = [] ∨ s = s') ∧ es = es' ∧ c = c'|_ => False
 | .tup as, b => match b with|.tup bs => eqvL as bs|_ => False
 | .agg as, b => match b with|.agg bs => eqvL as bs|_ => False
 | a, b => a = b
theorem qaq9 {E : Env} {s s' : Nat} {es es' : List (List AV)} {c c' : Option Nat} {v : Value} (h : (es = [] ∨ s = s') ∧ es = es' ∧ c = c') (hr : Rel E (.sl s es c) v) : Rel E (.sl s' es' c') v := by
 obtain ⟨h, rfl, rfl⟩ := h;rcases h with rfl|rfl
 ·simp only [Rel] at hr ⊢;obtain ⟨a, cap, h1, h2, h3, h4, _⟩ := hr;exact ⟨a, cap, h1, h2, h3, h4, by simp⟩
 ·exact hr
theorem zbQ9 {E : Env} : ∀ {as bs : List AV} {vs : List Value}, eqv1 as bs → RelL E as vs → RelL E bs vs
 | [], [], _, _, hr => hr
 | [], _ :: _, _, h, _ => h.elim
 | _ :: _, [], _, h, _ => h.elim
 | a :: as, b :: bs, vs, h, hr => by
  simp only [eqv1] at h;simp only [RelL] at hr ⊢;obtain ⟨u, us, rfl, h1, h2⟩ := hr;refine ⟨u, us, rfl, ?_, zbQ9 h.2 h2⟩;have h0 := h.1;split at h0
  ·exact qaq9 h0 h1
  ·subst h0; exact h1
theorem kbe9 {E : Env} : ∀ {as bs : List AV} {vs : List Value}, eqvL as bs → RelL E as vs → RelL E bs vs
 | [], [], _, _, hr => hr
 | [], _ :: _, _, h, _ => h.elim
 | _ :: _, [], _, h, _ => h.elim
 | a :: as, b :: bs, vs, h, hr => by
  simp only [eqvL] at h;simp only [RelL] at hr ⊢;obtain ⟨u, us, rfl, h1, h2⟩ := hr;refine ⟨u, us, rfl, ?_, kbe9 h.2 h2⟩;have h0 := h.1;split at h0
  ·exact qaq9 h0 h1
  ·simp only [Rel] at h1 ⊢;obtain ⟨vs, hv, hl, ho⟩ := h1;exact ⟨vs, hv, zbQ9 h0 hl, ho⟩
  ·subst h0; exact h1
theorem qdH9 {E : Env} {a b : AV} {v : Value} (h : a.eqv b) (hr : Rel E a v) : Rel E b v := by
 unfold AV.eqv at h;split at h
 ·split at h
  ·exact qaq9 h hr
  ·exact h.elim
 ·split at h
  ·simp only [Rel] at hr ⊢;obtain ⟨vs, hv, hl⟩ := hr;exact ⟨vs, hv, kbe9 h hl⟩
  ·exact h.elim
 ·split at h
  ·simp only [Rel] at hr ⊢;obtain ⟨vs, hv, hl, ho⟩ := hr;exact ⟨vs, hv, kbe9 h hl, ho⟩
  ·exact h.elim
 ·subst h; exact hr
theorem Closes.eqv {n0 : Nat} {H' Hf : List Blk} {v r r' : AV} (h : Closes n0 H' v r Hf) (he : r.eqv r') : Closes n0 H' v r' Hf := fun S' u h1 h2 h3 =>
 let ⟨S'', e1, e2, e3, e4⟩ := h S' u h1 h2 h3
 ⟨S'', e1, e2, e3, qdH9 he e4⟩
theorem xeb9 (s s' : Nat) (es es' : List (List AV)) (c c' : Option Nat) : (AV.sl s es c).eqv (.sl s' es' c') = ((es = [] ∨ s = s') ∧ es = es' ∧ c = c') := rfl
theorem zdH9 (as bs : List AV) : (AV.tup as).eqv (.tup bs) = eqvL as bs := rfl
theorem xdH9 (as bs : List AV) : (AV.agg as).eqv (.agg bs) = eqvL as bs := rfl
theorem wdH9 (k : IntKind) (n : Int) (b : AV) : (AV.int k n).eqv b = (.int k n = b) := rfl
theorem zdd9 (n : Bool) (b : AV) : (AV.bool n).eqv b = (.bool n = b) := rfl
theorem vdH9 (n : List UInt8) (b : AV) : (AV.str n).eqv b = (.str n = b) := rfl
theorem kdH9 (x n h : Nat) (c : Option Nat) (b : AV) : (AV.own x n h c).eqv b = (.own x n h c = b) := rfl
theorem qdI9 (x n h o : Nat) (b : AV) : (AV.ptr x n h o).eqv b = (.ptr x n h o = b) := rfl
theorem xdd9 (cs : List AV) (o : Nat) (b : AV) : (AV.iptr cs o).eqv b = (.iptr cs o = b) := rfl
theorem web9 (f : FuncId) (cs : List AV) (b : AV) : (AV.fn f cs).eqv b = (.fn f cs = b) := rfl
theorem veb9 (x : Nat) (b : AV) : (AV.mp x).eqv b = (.mp x = b) := rfl
theorem zdI9 (x : Nat) (b : AV) : (AV.yld x).eqv b = (.yld x = b) := rfl
theorem xdI9 (x : Value) (b : AV) : (AV.lit x).eqv b = (.lit x = b) := rfl
theorem wdI9 (b : AV) : AV.err.eqv b = (.err = b) := rfl
theorem keb9 : eqvL [] [] = True := rfl
theorem vcd9 (s s' : Nat) (es es' : List (List AV)) (c c' : Option Nat) (as bs : List AV) : eqvL (.sl s es c :: as) (.sl s' es' c' :: bs) = (((es = [] ∨ s = s') ∧ es = es' ∧ c = c') ∧ eqvL as bs) := rfl
theorem zbE9 (xs ys : List AV) (as bs : List AV) : eqvL (.agg xs :: as) (.agg ys :: bs) = (eqv1 xs ys ∧ eqvL as bs) := rfl
theorem xbE9 (k : IntKind) (n : Int) (b : AV) (as bs : List AV) : eqvL (.int k n :: as) (b :: bs) = (.int k n = b ∧ eqvL as bs) := rfl
theorem xbp9 (n : Bool) (b : AV) (as bs : List AV) : eqvL (.bool n :: as) (b :: bs) = (.bool n = b ∧ eqvL as bs) := rfl
theorem wbE9 (n : List UInt8) (b : AV) (as bs : List AV) : eqvL (.str n :: as) (b :: bs) = (.str n = b ∧ eqvL as bs) := rfl
theorem vbE9 (x n h : Nat) (c : Option Nat) (b : AV) (as bs : List AV) : eqvL (.own x n h c :: as) (b :: bs) = (.own x n h c = b ∧ eqvL as bs) := rfl
theorem kbE9 (x n h o : Nat) (b : AV) (as bs : List AV) : eqvL (.ptr x n h o :: as) (b :: bs) = (.ptr x n h o = b ∧ eqvL as bs) := rfl
theorem wbp9 (cs : List AV) (o : Nat) (b : AV) (as bs : List AV) : eqvL (.iptr cs o :: as) (b :: bs) = (.iptr cs o = b ∧ eqvL as bs) := rfl
theorem kcd9 (f : FuncId) (cs : List AV) (b : AV) (as bs : List AV) : eqvL (.fn f cs :: as) (b :: bs) = (.fn f cs = b ∧ eqvL as bs) := rfl
theorem qce9 (x : Nat) (b : AV) (as bs : List AV) : eqvL (.mp x :: as) (b :: bs) = (.mp x = b ∧ eqvL as bs) := rfl
theorem qbF9 (x : Nat) (b : AV) (as bs : List AV) : eqvL (.yld x :: as) (b :: bs) = (.yld x = b ∧ eqvL as bs) := rfl
theorem zbF9 (x : Value) (b : AV) (as bs : List AV) : eqvL (.lit x :: as) (b :: bs) = (.lit x = b ∧ eqvL as bs) := rfl
theorem xbF9 (b : AV) (as bs : List AV) : eqvL (.err :: as) (b :: bs) = (.err = b ∧ eqvL as bs) := rfl
theorem vdI9 : eqv1 [] [] = True := rfl
theorem wbF9 (s s' : Nat) (es es' : List (List AV)) (c c' : Option Nat) (as bs : List AV) : eqv1 (.sl s es c :: as) (.sl s' es' c' :: bs) = (((es = [] ∨ s = s') ∧ es = es' ∧ c = c') ∧ eqv1 as bs) := rfl
theorem vbp9 (k : IntKind) (n : Int) (b : AV) (as bs : List AV) : eqv1 (.int k n :: as) (b :: bs) = (.int k n = b ∧ eqv1 as bs) := rfl
theorem qbf9 (n : Bool) (b : AV) (as bs : List AV) : eqv1 (.bool n :: as) (b :: bs) = (.bool n = b ∧ eqv1 as bs) := rfl
theorem kbp9 (n : List UInt8) (b : AV) (as bs : List AV) : eqv1 (.str n :: as) (b :: bs) = (.str n = b ∧ eqv1 as bs) := rfl
def Done (P : Program) (rs : List ResultVar) (d : Nat) (r : AV) : Post := fun e a' H' =>
 (e = .normal ∨ e = .ret) ∧ (ares P rs a' H').1 = true ∧ okR H' d (ares P rs a' H').2 = true ∧ (zT0 H' d (ares P rs a' H').2).eqv r
theorem xbQ9 {f : FuncId} {fn : Func} {c : Code} {args : List AV} {r : AV} (d n : Nat) (rs : List ResultVar) (hf : P.funcs[f]? = some fn) (hb : fn.body = some c) (hn : fn.ntmps = n) (hrs : fn.results.toList = rs) (hl : args.length ≤ n)
  (h : ∀ a, a.length = n → xaT9 a 0 args → AWp false P G 0 c (Done P rs d r) a []) : PC P G f args r := by
 refine qai9 hf hb (vs0 (h _ ?_ (by simpa using wT0 [] args _)) fun e a' H' ⟨h1, h2, h3, h4⟩ => ⟨h1, by rw [hrs]; exact h2, by rw [hrs]; exact (wcd9 d h3).eqv h4⟩);simp [hn]; omega
def qec9 (P : Program) (rs : List ResultVar) (r : AV) (Hf : List Blk) : Post := fun e a' H' =>
 (e = .normal ∨ e = .ret) ∧ (ares P rs a' H').1 = true ∧ ((ares P rs a' H').2).eqv r ∧ H' = Hf
theorem qbq9 {f : FuncId} {fn : Func} {c : Code} {args : List AV} {H Hf : List Blk} {r : AV} (n : Nat) (rs : List ResultVar) (hf : P.funcs[f]? = some fn) (hb : fn.body = some c) (hn : fn.ntmps = n) (hrs : fn.results.toList = rs) (hl : args.length ≤ n)
  (h : ∀ a, a.length = n → xaT9 a 0 args → AWp false P G H.length c (qec9 P rs r Hf) a H) : wd0 P G f args H r Hf := by
 refine qai9 hf hb (vs0 (h _ ?_ (by simpa using wT0 [] args _)) fun e a' H' ⟨h1, h2, h3, h4⟩ => ⟨h1, by rw [hrs]; exact h2, by
  subst h4; rw [hrs]; exact Closes.eqv (fun S' u h5 h6 h7 => ⟨S', rfl, h5, Ext.refl _ _ _, h7⟩) h3⟩)
 simp [hn]; omega
theorem zec9 (G : Glob) (a : List AV) (t : Nat) : ev G a (.tmp t) = getA a t := rfl
theorem qcv9 (k : IntKind) (n : Int) : (AV.int k n).strip = .int k n := rfl
theorem zce9 (b : Bool) : (AV.bool b).strip = .bool b := rfl
theorem zcv9 (s : List UInt8) : (AV.str s).strip = .str s := rfl
theorem xcv9 (cs : List AV) : (AV.agg cs).strip = .agg cs := rfl
theorem wcv9 (cs : List AV) : (AV.tup cs).strip = .tup cs := rfl
theorem wdd9 (s : Nat) (es : List (List AV)) (c : Option Nat) : (AV.sl s es c).strip = .sl s es c := rfl
theorem vcv9 (b n h : Nat) (c : Option Nat) : (AV.own b n h c).strip = .own b n h c := rfl
theorem kcv9 (b i o h : Nat) : (AV.ptr b i o h).strip = .ptr b i o h := rfl
theorem xce9 (cs : List AV) (o : Nat) : (AV.iptr cs o).strip = .iptr cs o := rfl
theorem vdd9 (f : FuncId) (cs : List AV) : (AV.fn f cs).strip = .fn f cs := rfl
theorem qcw9 (f : FuncId) (cs : List AV) : (AV.bnd f cs).strip = .bnd f cs := rfl
theorem zcw9 (b i n h : Nat) : (AV.sub b i n h).strip = .sub b i n h := rfl
theorem xec9 (b i n h : Nat) : (AV.sub b i n h).ok = true := rfl
theorem kdd9 (b : Nat) : (AV.mp b).strip = .mp b := rfl
theorem xcw9 (b : Nat) : (AV.yld b).strip = .yld b := rfl
theorem wec9 (b : Nat) : (AV.yld b).ok = true := rfl
theorem wcw9 (g : Bool) (v : AV) : (AV.opt g v).strip = v := rfl
theorem vcw9 (v : Value) : (AV.lit v).strip = .lit v := rfl
theorem kcw9 : AV.top.strip = .top := rfl
theorem vec9 (k : IntKind) (n : Int) : (AV.int k n).ok = true := rfl
theorem kdI9 (b : Bool) : (AV.bool b).ok = true := rfl
theorem kec9 (s : List UInt8) : (AV.str s).ok = true := rfl
theorem qed9 (cs : List AV) : (AV.agg cs).ok = true := rfl
theorem zed9 (cs : List AV) : (AV.tup cs).ok = true := rfl
theorem veq9 (s : Nat) (es : List (List AV)) (c : Option Nat) : (AV.sl s es c).ok = true := rfl
theorem ok_own (b n h : Nat) (c : Option Nat) : (AV.own b n h c).ok = true := rfl
theorem xed9 (b i o h : Nat) : (AV.ptr b i o h).ok = true := rfl
theorem qdJ9 (cs : List AV) (o : Nat) : (AV.iptr cs o).ok = true := rfl
theorem keq9 (f : FuncId) (cs : List AV) : (AV.fn f cs).ok = true := rfl
theorem wed9 (f : FuncId) (cs : List AV) : (AV.bnd f cs).ok = true := rfl
theorem qer9 (b : Nat) : (AV.mp b).ok = true := rfl
theorem ved9 (g : Bool) (v : AV) : (AV.opt g v).ok = g := rfl
theorem ked9 (v : Value) : (AV.lit v).ok = true := rfl
theorem qee9 : AV.top.ok = true := rfl
theorem wce9 : AV.anyb.strip = .anyb := rfl
theorem zdJ9 : AV.anyb.ok = true := rfl
theorem qcx9 : AV.err.strip = .err := rfl
theorem zee9 : AV.err.ok = true := rfl
theorem vce9 (k : IntKind) : (AV.anyi k).strip = .anyi k := rfl
theorem xdJ9 (k : IntKind) : (AV.anyi k).ok = true := rfl
theorem zbq9 (k : IntKind) (n : Int) : wac9 (.int k n) = .int k n := rfl
theorem kce9 (b : Bool) : wac9 (.bool b) = .bool b := rfl
theorem zcx9 (s : ByteArray) : wac9 (.string s) = .str s.data.toList := rfl
theorem xcx9 : wac9 (.slice none 0 0) = .sl 0 [] (some 0) := rfl
theorem qde9 (b p q : Bool) : AV.ite b (.bool p) (.bool q) = .bool (bif b then p else q) := rfl
theorem zde9 (b w : Bool) : gOf (.bool b) w = some (b == w) := rfl
theorem wdJ9 (g b w : Bool) : gOf (.opt g (.bool b)) w = some (g && (b == w)) := rfl
theorem wcx9 (w : Bool) : gOf (.tup []) w = some false := rfl
def vdJ9 (G : Glob) (a : List AV) (c : Operand) (X Y : Prop) : Prop :=
 match (ev G a c).strip with
 | .bool b => (ev G a c).ok = true ∧ (b = true → X) ∧ (b = false → Y)
 | .anyb => (ev G a c).ok = true ∧ X ∧ Y
 | _ => False
theorem xee9 {c : Operand} {x y : Code} (h : vdJ9 G a c (AWp ρ P G n0 x Q a H) (AWp ρ P G n0 y Q a H)) : AWp ρ P G n0 (.cond c x y) Q a H := by
 unfold vdJ9 at h;split at h
 ·rename_i b hb;exact zdc9 hb h.1 h.2.1 h.2.2
 ·rename_i hb;exact wdG9 hb h.1 h.2.1 h.2.2
 ·exact h.elim
def ki0 (m : Nat) (v : AV) : AV := if v.ids (fun b => decide (b < m)) = true then v else .top
def Blk.below (m : Nat) : Blk → Bool
 | .row _ _ es => idsE (fun b => decide (b < m)) es
 | .ob (.map _ _ es) => es.all fun p => p.1.ids (fun b => decide (b < m)) && p.2.ids (fun b => decide (b < m))
 | .ob (.loop _ as _) => idsL (fun b => decide (b < m)) as
theorem zbf9 {m : Nat} (S : St) (H : List Blk) : (S.env H).agree (fun b => decide (b < m)) (S.env (H.take m)) := ⟨fun k o q => q, fun b hb => by
  have hb' : b < m := by simpa using hb
  have hget : (H.take m)[b]? = H[b]? := by rw [l'E, if_pos hb']
  exact ⟨by simp [St.env, shOf, hget], rfl, by simp [St.env, mpOf, hget]⟩⟩
theorem vaE9 {m : Nat} {S : St} (hok : S.Ok H) (hm : n0 ≤ m) (hml : m ≤ H.length) (hb : (H.take m).all (Blk.below m) = true) : S.Ok (H.take m) ∧ Ext n0 S H S (H.take m) := by
 have hget : ∀ b, b < m → (H.take m)[b]? = H[b]? := fun b hb => by rw [l'E, if_pos hb]
 have hnone : ∀ b, ¬ b < m → (H.take m)[b]? = none := fun b hb => by rw [l'E, if_neg hb]
 have hag : (S.env H).agree (fun b => decide (b < m)) (S.env (H.take m)) := ⟨fun k o q => q, fun b hb => by
  have hb' : b < m := by simpa using hb
  exact ⟨by simp [St.env, shOf, hget b hb'], rfl, by simp [St.env, mpOf, hget b hb']⟩⟩
 have hat : ∀ b, b < m → S.at (H.take m) b = S.at H b := fun b hb => by simp only [St.at, hget b hb]
 have hatn : ∀ b g, S.at (H.take m) b = some g → b < m := fun b g q => by
  by_cases hb : b < m
  ·exact hb
  ·simp [St.at, hnone b hb] at q
 refine ⟨⟨hok.imm, fun b s t es hbb => ?_, fun b ob0 hbb => ?_, fun b b' g q q' => ?_⟩, ⟨rfl, rfl, rfl, l'f _, fun _ _ _ => rfl, fun _ _ q => q, fun _ q => .inl q, fun k q => ?_, fun b s cur hb hs => ?_, fun b g hb hg => ?_, fun _ => by simp; omega⟩⟩
 ·have hlt : b < m := by
   rcases l'i b m with q|q
   ·exact q
   ·rw [hnone b (by omega)] at hbb; cases hbb
  have hbel := l'j.1 hb _ (l'q hbb);rw [hget b hlt] at hbb;rcases hok.row b s t es hbb with q|⟨g, k, cs, h1, h2, h3, h4, h5, h6, h7⟩
  ·exact .inl q
  ·refine .inr ⟨g, k, cs, h1, h2, h3, h4, h5, h6, fun i e hi => ?_⟩;obtain ⟨l1, l2⟩ := h7 i e hi;refine ⟨l1, fun j x hj => ?_⟩;obtain ⟨v, hv, ho, hr⟩ := l2 j x hj;simp only [Blk.below] at hbel;have h8 := (wX0 e).1 ((zG0 es).1 hbel e (l'q hi)) x (l'q hj);exact ⟨v, hv, ho, Rel.move hag x v h8 hr⟩
 ·have hlt : b < m := by
   rcases l'i b m with q|q
   ·exact q
   ·rw [hnone b (by omega)] at hbb; cases hbb
  have hbel := l'j.1 hb _ (l'q hbb);rw [hget b hlt] at hbb;obtain ⟨g, ob1, h1, h2, h3, h4⟩ := hok.ob b ob0 hbb;refine ⟨g, ob1, h1, h2, h3, ?_⟩;cases ob0 with
  | map kt vt es =>
   obtain ⟨ents, clock, e0, e1, h5⟩ := h4;refine ⟨ents, clock, e0, e1, fun i p hi => ?_⟩;obtain ⟨e, he, r1, r2⟩ := h5 i p hi;simp only [Blk.below, l'j, l'a] at hbel;have h8 := hbel p (l'q hi);exact ⟨e, he, Rel.move hag _ _ h8.1 r1, Rel.move hag _ _ h8.2 r2⟩
  | loop o as vs => exact ⟨h4.1, RelL.move hag _ _ hbel h4.2⟩
 ·have q1 := hatn b g q;have q2 := hatn b' g q';rw [hat b q1] at q; rw [hat b' q2] at q';exact hok.inj b b' g q q'
 ·obtain ⟨b, hb'⟩ := q;have := hatn b k hb';rw [hat b this] at hb';exact .inl ⟨b, hb'⟩
 ·exact ⟨cur, l'f _, by simpa [shOf, hget b (by omega)] using hs, fun _ => rfl⟩
 ·simpa [mpOf, hget b (by omega)] using hg
theorem xbq9 {m : Nat} (hm : n0 ≤ m) (hml : m ≤ H.length) (hb : (H.take m).all (Blk.below m) = true) : Weak n0 a H (a.map (ki0 m)) (H.take m) := fun S vs hok hn ha => by
 obtain ⟨h1, h2⟩ := vaE9 hok hm hml hb;have hag := zbf9 (m := m) S H;refine ⟨S, rfl, h1, h2, ?_⟩
 ·refine RelL.mk (by simpa using ha.length) fun i x v hx hv => ?_;rw [l'p] at hx;cases hy : a[i]? with
  | none => rw [hy] at hx; cases hx
  | some y =>
   rw [hy] at hx;simp only [Option.map_some, Option.some.injEq] at hx;subst hx;obtain ⟨v', hv', hr⟩ := ha.get hy;rw [hv] at hv'; injection hv' with hv'; subst hv'
   unfold ki0;split
   ·rename_i hi; exact Rel.move hag y v hi hr
   ·simp [Rel]
end
end Go.V
