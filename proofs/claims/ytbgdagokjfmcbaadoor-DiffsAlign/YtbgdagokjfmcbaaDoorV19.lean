/- The library V, part 19: the forms in which a walk is done. -/
import Derived.Test.YtbgdagokjfmcbaaDoorV16
set_option linter.unusedVariables false
set_option linter.unusedSimpArgs false
namespace Go.V
open Go Go.RowKit
abbrev Post := Exit → List AV → List Blk → Prop
def AWp (ρ : Bool) (P : Program) (G : Glob) (n0 : Nat) (c : Code) (Q : Post) (a : List AV) (H : List Blk) : Prop :=
 ∀ (ro : Option Nat) (S : St) (act : Act), ro.isSome = ρ → S.Ok H → Globs G S.M → n0 ≤ H.length → RelL (S.env H) a act.tmps.toList → c.wpIn (fen ro) 0 P (fun e => Ends G n0 S H act.defers (Q e)) act S.w
def qbj9 (K : List AV → List Blk → Prop) (Q : Post) : Post
 | .normal, a, H => K a H
 | e, a, H => Q e a H
def vX0 (id : Nat) (Q : Post) : Post
 | .exit id', a, H => if id' = id then Q .normal a H else Q (.exit id') a H
 | e, a, H => Q e a H
def Weak (n0 : Nat) (a : List AV) (H : List Blk) (a1 : List AV) (H1 : List Blk) : Prop :=
 ∀ (S : St) (vs : List Value), S.Ok H → n0 ≤ H.length → RelL (S.env H) a vs → ∃ S1, S1.w = S.w ∧ S1.Ok H1 ∧ Ext n0 S H S1 H1 ∧ RelL (S1.env H1) a1 vs
section
variable {ρ : Bool} {P : Program} {G : Glob} {n0 : Nat} {Q : Post} {a : List AV} {H : List Blk}
theorem Ends.mono {S : St} {K K' : List AV → List Blk → Prop} {ds : List Deferred} {act : Act} {w : World} (h : Ends G n0 S H ds K act w) (hk : ∀ a H, K a H → K' a H) : Ends G n0 S H ds K' act w :=
 let ⟨a', H', S', h1, h2, h3⟩ := h
 ⟨a', H', S', h1, hk _ _ h2, h3⟩
theorem Ends.from {S S1 : St} {H1 : List Blk} {ds ds1 : List Deferred} {K : List AV → List Blk → Prop} {act : Act} {w : World} (he : Ext n0 S H S1 H1) (hm : Marks S ds S1 H1 ds1) (h : Ends G n0 S1 H1 ds1 K act w) : Ends G n0 S H ds K act w :=
 let ⟨a', H', S', h1, h2, h3, h4, h5, h6⟩ := h
 ⟨a', H', S', h1, h2, h3, he.trans h4, h5, hm.trans h6 he.size h4⟩
theorem xy0 {c : Code} {Q' : Post} (h : AWp ρ P G n0 c Q a H) (hq : ∀ e a H, Q e a H → Q' e a H) : AWp ρ P G n0 c Q' a H :=
 fun ro S act hr h1 h2 h3 h4 => wpIn_mono (h ro S act hr h1 h2 h3 h4) fun e _ _ he => he.mono (hq e)
theorem zcR9 {x y : Code} (h : AWp ρ P G n0 x (qbj9 (AWp ρ P G n0 y Q) Q) a H) : AWp ρ P G n0 (.seq x y) Q a H := fun ro S act hr h1 h2 h3 h4 =>
 wpIn_seq (wpIn_mono (h ro S act hr h1 h2 h3 h4) fun e act' w' he => by
  cases e with
  | normal =>
   obtain ⟨a', H', S', rfl, hK, hok, hext, ha, hd⟩ := he;exact wpIn_mono (hK ro S' act' hr hok (h2.mono hext.M) (hext.len h3) ha) fun e _ _ q => q.from hext hd
  | _ => exact he)
theorem wcq9 (h : Q .normal a H) : AWp ρ P G n0 .skip Q a H := fun ro S act hr h1 h2 h3 h4 => wpIn_skip ⟨a, H, S, rfl, h, h1, Ext.refl _ _ _, h4, Marks.refl _ _ _ _⟩
theorem xcR9 (h : Q .ret a H) : AWp ρ P G n0 .ret Q a H := fun ro S act hr h1 h2 h3 h4 => wpIn_ret ⟨a, H, S, rfl, h, h1, Ext.refl _ _ _, h4, Marks.refl _ _ _ _⟩
theorem vcq9 {id : Nat} (h : Q (.exit id) a H) : AWp ρ P G n0 (.exit id) Q a H := fun ro S act hr h1 h2 h3 h4 => wpIn_exit ⟨a, H, S, rfl, h, h1, Ext.refl _ _ _, h4, Marks.refl _ _ _ _⟩
theorem kaU9 {l : Nat} (h : Q .normal a H) : AWp ρ P G n0 (.label l) Q a H := fun ro S act hr h1 h2 h3 h4 => wpIn_label ⟨a, H, S, rfl, h, h1, Ext.refl _ _ _, h4, Marks.refl _ _ _ _⟩
theorem wbQ9 {id : Nat} {c : Code} (h : AWp ρ P G n0 c (vX0 id Q) a H) : AWp ρ P G n0 (.block id c) Q a H := fun ro S act hr h1 h2 h3 h4 =>
 wpIn_block (wpIn_mono (h ro S act hr h1 h2 h3 h4) fun e act' w' he => by
  cases e with
  | exit id' =>
   by_cases hid : id' = id
   ·have he' : Ends G n0 S H act.defers (Q .normal) act' w' := he.mono fun a H q => by simpa [vX0, hid] using q
    simpa [Exit.inBlock, hid] using he'
   ·have he' : Ends G n0 S H act.defers (Q (.exit id')) act' w' := he.mono fun a H q => by simpa [vX0, hid] using q
    simpa [Exit.inBlock, hid] using he'
  | _ => exact he)
theorem kcq9 {c : Operand} {x y : Code} {b : Bool} (hc : (ev G a c).strip = .bool b) (hk : (ev G a c).ok = true) (ht : b = true → AWp ρ P G n0 x Q a H) (hf : b = false → AWp ρ P G n0 y Q a H) : AWp ρ P G n0 (.cond c x y) Q a H :=
 fun ro S act hr0 h1 h2 h3 h4 => by
  have hr := (zaU9 (act := act) h2 h4 c).strip hk;rw [hc] at hr;have hv : act.eval c = .bool b := by simpa [Rel] using hr
  exact wpIn_cond_split hv (fun e => ht e ro S act hr0 h1 h2 h3 h4) fun e => hf e ro S act hr0 h1 h2 h3 h4
theorem wcR9 {c : Operand} {x y : Code} (hc : (ev G a c).strip = .anyb) (hk : (ev G a c).ok = true) (ht : AWp ρ P G n0 x Q a H) (hf : AWp ρ P G n0 y Q a H) : AWp ρ P G n0 (.cond c x y) Q a H :=
 fun ro S act hr0 h1 h2 h3 h4 => by
  have hr := (zaU9 (act := act) h2 h4 c).strip hk;rw [hc] at hr;simp only [Rel] at hr;obtain ⟨b, hv⟩ := hr;exact wpIn_cond_split hv (fun e => ht ro S act hr0 h1 h2 h3 h4) fun e => hf ro S act hr0 h1 h2 h3 h4
theorem qcr9 {c : Code} {a1 : List AV} {H1 : List Blk} (hw : Weak n0 a H a1 H1) (h : AWp ρ P G n0 c Q a1 H1) : AWp ρ P G n0 c Q a H := fun ro S act hr0 h1 h2 h3 h4 => by
 obtain ⟨S1, e1, e2, e3, e4⟩ := hw S _ h1 h3 h4;have := h ro S1 act hr0 e2 (h2.mono e3.M) (e3.len h3) e4;rw [e1] at this;exact wpIn_mono this fun e _ _ q => q.from e3 (Marks.refl _ _ _ _)
theorem Weak.refl (a : List AV) (H : List Blk) : Weak n0 a H a H := fun S vs h1 h2 h3 => ⟨S, rfl, h1, Ext.refl _ _ _, h3⟩
theorem Weak.trans {a1 a2 : List AV} {H1 H2 : List Blk} (h : Weak n0 a H a1 H1) (k : Weak n0 a1 H1 a2 H2) : Weak n0 a H a2 H2 := fun S vs h1 h2 h3 => by
 obtain ⟨S1, e1, e2, e3, e4⟩ := h S vs h1 h2 h3;obtain ⟨S2, f1, f2, f3, f4⟩ := k S1 vs e2 (e3.len h2) e4;exact ⟨S2, f1.trans e1, f2, e3.trans f3, f4⟩
theorem vaJ9 {F : Fence} {m : Nat} {c : Code} {Q : Exit → Act → World → Prop} (I : Nat → Act → World → Prop) (round : ∀ n a w, I n a w → c.wpIn F m P (Exit.then (fun a' w' => ∃ m, m < n ∧ I m a' w') Q) a w) :
  ∀ n act w, I n act w → (Code.loop c).wpIn F m P Q act w := by
 intro n act w h₀ b k cs hro hb hr;have key : ∀ n act w, I n act w → ∃ e a' w', Q e a' w' ∧ ArrivesIn (Machine.fenced P F) P (lone (b.atR act (.code c :: .inLoop c :: k)) cs w) b k cs e a' w' := by
  intro n;induction n using Nat.strongRecOn with
  | _ n ih =>
   intro act w hI;obtain ⟨e, a₁, w₁, hq, harr⟩ := round n act w hI b (.inLoop c :: k) cs hro hb hr;cases e with
   | normal =>
    obtain ⟨m, hlt, hI₁⟩ := hq;obtain ⟨e₂, a₂, w₂, hq₂, harr₂⟩ := ih m hlt a₁ w₁ hI₁;exact ⟨e₂, a₂, w₂, hq₂, .of_steps (StepsIn.trans harr (.one (fenced_calm hb hr rfl) stepR_inLoop)) harr₂⟩
   | exit id => exact ⟨_, a₁, w₁, hq, .pass (x := .inLoop c) rfl (fun _ _ => .inl (by simp)) harr⟩
   | goto l => exact ⟨_, a₁, w₁, hq, .pass (x := .inLoop c) rfl (fun _ _ => .inl (by simp)) harr⟩
   | ret => exact ⟨_, a₁, w₁, hq, .pass (x := .inLoop c) rfl (fun _ _ => .inl (by simp)) harr⟩
   | panic ch => exact ⟨_, a₁, w₁, hq, .pass (x := .inLoop c) rfl (fun _ _ => .inl (by simp)) harr⟩
   | outgrown => exact ⟨_, a₁, w₁, hq, .pass (x := .inLoop c) rfl (fun _ _ => .inl (by simp)) harr⟩
 obtain ⟨e, a', w', hq, harr⟩ := key n act w h₀;exact ⟨e, a', w', hq, .of_steps (.one (fenced_calm hb hr rfl) stepR_loop) harr⟩
theorem zcr9 {c : Code} (I : Nat → List AV → List Blk → Prop) {n : Nat} {a1 : List AV} {H1 : List Blk} (hw : Weak n0 a H a1 H1) (h0 : I n a1 H1)
  (round : ∀ n a H, I n a H → AWp ρ P G n0 c (qbj9 (fun a' H' => ∃ m a2 H2, m < n ∧ Weak n0 a' H' a2 H2 ∧ I m a2 H2) Q) a H) : AWp ρ P G n0 (.loop c) Q a H := fun ro S act hr0 h1 h2 h3 h4 => by
 obtain ⟨S1, e1, e2, e3, e4⟩ := hw S _ h1 h3 h4;have := vaJ9 (F := fen ro) (m := 0) (P := P) (c := c) (Q := fun e => Ends G n0 S H act.defers (Q e)) (fun n act' w => Ends G n0 S H act.defers (I n) act' w) (fun n act' w hI => ?_) n act S.w ⟨a1, H1, S1, e1, h0, e2, e3, e4, Marks.refl _ _ _ _⟩
 ·exact this
 ·obtain ⟨a', H', S', rfl, hK, hok, hext, ha, hd⟩ := hI;refine wpIn_mono (round n a' H' hK ro S' act' hr0 hok (h2.mono hext.M) (hext.len h3) ha) fun e act'' w' he => ?_;cases e with
  | normal =>
   obtain ⟨a2, H2, S2, rfl, ⟨m, a3, H3, hlt, hwk, hI3⟩, hok2, hext2, ha2, hd2⟩ := he;obtain ⟨S3, f1, f2, f3, f4⟩ := hwk S2 _ hok2 (hext2.len (hext.len h3)) ha2;exact ⟨m, hlt, a3, H3, S3, f1, hI3, f2, (hext.trans hext2).trans f3, f4, (hd.trans hd2 hext.size hext2).mono f3⟩
  | _ => exact Ends.from hext hd he
def qal9 (P : Program) (G : Glob) (dr : Bool) (f : AV) (args : List AV) (H : List Blk) (K : AV → List Blk → Prop) : Prop :=
 match f.strip with
 | .fn g cap => f.ok = true ∧ zc0 P g = true ∧ (args.all AV.ok) = true ∧
   (if dr = true then ∃ r, qg0 P G g (args.map AV.strip ++ cap) H r H ∧ K r H else ∃ r H', qg0 P G g (args.map AV.strip ++ cap) H r H' ∧ K r H')
 | .yld b => f.ok = true ∧ (args.all AV.ok) = true ∧
   (if dr = true then ∃ r, wX0 P G b (args.map AV.strip) H r H ∧ K r H else ∃ r H', wX0 P G b (args.map AV.strip) H r H' ∧ K r H')
 | _ => False
def qaV9 (P : Program) (G : Glob) (dr g : Bool) (f : AV) (args : List AV) (H : List Blk) (K : AV → List Blk → Prop) : Prop :=
 match f.strip with
 | .fn fn cap => (g = true → f.ok = true ∧ (args.all AV.ok) = true) ∧ zc0 P fn = true ∧ ∃ r, (g = true → qg0 P G fn (args.map AV.strip ++ cap) H r H) ∧ K (.opt g r) H
 | .yld b => dr = false ∧ (if g = true then f.ok = true ∧ (args.all AV.ok) = true ∧ ∃ r H', wX0 P G b (args.map AV.strip) H r H' ∧ K r H' else K (.tup []) H)
 | _ => False
def kpF (q : Operand → Bool) : Bool := q (.global 0) && !q (.global 2)
def isVC : Op → Bool
 | .call { callee := .value _, .. } => true
 | _ => false
def ownF (q : Operand → Bool) : Bool := q (.global 0) && !q (.global 3)
def atF (q : Operand → Bool) : Bool := q (.global 0) && !q (.global 4)
def pcF (q : Operand → Bool) : Bool := q (.global 0) && !q (.global 5)
def opK (P : Program) (G : Glob) (dr : Operand → Bool) (o : Op) (ρ : Operand → AV) (H : List Blk) (K : AV → List Blk → Prop) : Prop :=
 match o with
 | .call ⟨.value f, args, ts⟩ => qal9 P G (dr f) (ρ f) (args.toList.map ρ) H (fun r H' => (kpF dr = true → ∃ E, H' = H ++ E) ∧ (pcF dr = true → ∀ H2, xx0 P G (.call ⟨.value f, args, ts⟩) ρ H2 r H2) ∧ K r H')
 | .makeSlice t l c => if mkF dr = true then ∃ r, Made P (.makeSlice t l c) ρ H r ∧ K r H else if atF dr = true then ∃ b r H', MkAt P (.makeSlice t l c) ρ H b r H' ∧ K r H' else (xg0 P (.makeSlice t l c) ρ H).1 = true ∧ K (xg0 P (.makeSlice t l c) ρ H).2.1 (xg0 P (.makeSlice t l c) ρ H).2.2
 | .buildSlice t n ps => ((zf0 P (.buildSlice t n ps) ρ H).1 = true ∧ K (zf0 P (.buildSlice t n ps) ρ H).2 H) ∨ (ownF dr = true ∧ (zJ0 P (.buildSlice t n ps) ρ H).1 = true ∧ K (zJ0 P (.buildSlice t n ps) ρ H).2.1 (zJ0 P (.buildSlice t n ps) ρ H).2.2)
 | o => if wA0 o = true then (xg0 P o ρ H).1 = true ∧ K (xg0 P o ρ H).2.1 (xg0 P o ρ H).2.2 else (zf0 P o ρ H).1 = true ∧ K (zf0 P o ρ H).2 H
def gopK (P : Program) (G : Glob) (dr : Operand → Bool) (g : Bool) (o : Op) (ρ : Operand → AV) (H : List Blk) (K : AV → List Blk → Prop) : Prop :=
 match o with
 | .call { callee := .value f, args, .. } => qaV9 P G (dr f) g (ρ f) (args.toList.map ρ) H K
 | .makeSlice t l c => if mkF dr = true then ∃ r, (g = true → Made P (.makeSlice t l c) ρ H r) ∧ K (.opt g r) H else g = true ∧ (xg0 P (.makeSlice t l c) ρ H).1 = true ∧ K (xg0 P (.makeSlice t l c) ρ H).2.1 (xg0 P (.makeSlice t l c) ρ H).2.2
 | o => if wA0 o = true then g = true ∧ (xg0 P o ρ H).1 = true ∧ K (xg0 P o ρ H).2.1 (xg0 P o ρ H).2.2 else (g = true → (zf0 P o ρ H).1 = true) ∧ K (.opt g (zf0 P o ρ H).2) H
def tops (P : Program) (G : Glob) (dr : Operand → Bool) (ops : List Oper) (K : List AV → List Blk → Prop) : List Oper → List AV → List Blk → Prop
 | [], a, H => K a H
 | o :: rest, a, H =>
  match o.guard with
  | none => opK P G dr o.op (ev G a) H (fun r H' => tops P G dr ops K rest (putA a o.dst r) H')
  | some (j, want) =>
   match zU0 ops a j want with
   | some g => gopK P G dr g o.op (ev G a) H (fun r H' => tops P G dr ops K rest (putA a o.dst r) H')
   | none => False
theorem vbD9 {t : TypeId} {l c : Operand} {σ : Operand → AV} (h : (xg0 P (.makeSlice t l c) σ H).1 = true) : ∃ E, (xg0 P (.makeSlice t l c) σ H).2.2 = H ++ E := by
 simp only [xg0, Bool.and_eq_true] at h ⊢;have h := h.2.2;unfold vay9 at *;split at h
 ·split at h
  ·exact ⟨_, rfl⟩
  ·cases h
 ·cases h
theorem kbt9 {dr : Operand → Bool} {o : Op} {σ : Operand → AV} {K : AV → List Blk → Prop} (hnb0 : ¬ isBs o = true) (h : opK P G dr o σ H K) : ∃ r H', xx0 P G o σ H r H' ∧ (effD dr o = false → H' = H) ∧ K r H' ∧ (kpF dr = true → isVC o = true → ∃ E, H' = H ++ E) ∧ (mkF dr = false → atF dr = true → isMk o = true → ∃ b, MkAt P o σ H b r H') ∧ (atF dr = false → isMk o = true → ∃ E, H' = H ++ E) ∧ (pcF dr = true → isVC o = true → ∀ H2, xx0 P G o σ H2 r H2) := by
 have plain : isMk o = false → isVC o = false → (if wA0 o = true then (xg0 P o σ H).1 = true ∧ K (xg0 P o σ H).2.1 (xg0 P o σ H).2.2 else (zf0 P o σ H).1 = true ∧ K (zf0 P o σ H).2 H) → ∃ r H', xx0 P G o σ H r H' ∧ (effD dr o = false → H' = H) ∧ K r H' ∧ (kpF dr = true → isVC o = true → ∃ E, H' = H ++ E) ∧ (mkF dr = false → atF dr = true → isMk o = true → ∃ b, MkAt P o σ H b r H') ∧ (atF dr = false → isMk o = true → ∃ E, H' = H ++ E) ∧ (pcF dr = true → isVC o = true → ∀ H2, xx0 P G o σ H2 r H2) := by
  intro hm hv h;split at h
  ·rename_i he;exact ⟨_, _, .eff he h.1, fun q => (by simp [effD, he, hm] at q), h.2, fun _ q => (by rw [hv] at q; cases q), fun _ _ q => (by rw [hm] at q; cases q), fun _ q => (by rw [hm] at q; cases q), fun _ q => by rw [hv] at q; cases q⟩
  ·exact ⟨_, _, .pure h.1, fun _ => rfl, h.2, fun _ q => (by rw [hv] at q; cases q), fun _ _ q => (by rw [hm] at q; cases q), fun _ q => (by rw [hm] at q; cases q), fun _ q => by rw [hv] at q; cases q⟩
 unfold opK at h;split at h
 ·rename_i f args ts;unfold qal9 at h;split at h
  ·rename_i g cap hf;obtain ⟨h1, h2, h3, h4⟩ := h;have hargs : (args.toList.all fun x => (σ x).ok) = true := by simpa [List.all_map] using h3
   have hmap : (args.toList.map σ).map AV.strip = args.toList.map fun x => (σ x).strip := by simp
   split at h4
   ·obtain ⟨r, hc, hk⟩ := h4;rw [hmap] at hc;exact ⟨r, H, .call _ f g cap rfl rfl hf h1 h2 hargs r H hc, fun _ => rfl, hk.2.2, fun q _ => hk.1 q, fun _ _ q => (by cases q), fun _ q => (by cases q), fun q _ => hk.2.1 q⟩
   ·rename_i hdr;obtain ⟨r, H', hc, hk⟩ := h4;rw [hmap] at hc;exact ⟨r, H', .call _ f g cap rfl rfl hf h1 h2 hargs r H' hc, fun q => absurd (by simpa [effD, wA0] using q) hdr, hk.2.2, fun q _ => hk.1 q, fun _ _ q => (by cases q), fun _ q => (by cases q), fun q _ => hk.2.1 q⟩
  ·rename_i b hf;obtain ⟨h1, h3, h4⟩ := h;have hargs : (args.toList.all fun x => (σ x).ok) = true := by simpa [List.all_map] using h3
   have hmap : (args.toList.map σ).map AV.strip = args.toList.map fun x => (σ x).strip := by simp
   split at h4
   ·obtain ⟨r, hc, hk⟩ := h4;rw [hmap] at hc;exact ⟨r, H, .yield _ f b rfl rfl hf h1 hargs r H hc, fun _ => rfl, hk.2.2, fun q _ => hk.1 q, fun _ _ q => (by cases q), fun _ q => (by cases q), fun q _ => hk.2.1 q⟩
   ·rename_i hdr;obtain ⟨r, H', hc, hk⟩ := h4;rw [hmap] at hc;exact ⟨r, H', .yield _ f b rfl rfl hf h1 hargs r H' hc, fun q => absurd (by simpa [effD, wA0] using q) hdr, hk.2.2, fun q _ => hk.1 q, fun _ _ q => (by cases q), fun _ q => (by cases q), fun q _ => hk.2.1 q⟩
  ·exact h.elim
 ·split at h
  ·obtain ⟨r, hm, hk⟩ := h;rename_i hmk0;exact ⟨r, H, .made rfl r hm, fun _ => rfl, hk, fun _ q => (by cases q), fun q _ _ => (by rw [hmk0] at q; cases q), fun _ _ => ⟨[], by simp⟩, fun _ q => by cases q⟩
  ·rename_i hmk;split at h
   ·rename_i hat0;obtain ⟨b, r, H', hm, hk⟩ := h;exact ⟨r, H', .mkat rfl b r H' hm, fun q => (by simp [effD, wA0, isMk, hmk] at q), hk, fun _ q => (by cases q), fun _ _ _ => ⟨b, hm⟩, fun q _ => (by rw [hat0] at q; cases q), fun _ q => by cases q⟩
   ·rename_i hat;exact ⟨_, _, .eff rfl h.1, fun q => (by simp [effD, wA0, isMk, hmk] at q), h.2, fun _ q => (by cases q), fun _ q _ => absurd q hat, fun _ _ => vbD9 h.1, fun _ q => by cases q⟩
 ·exact absurd rfl hnb0
 ·rename_i hne hnm hnb;refine plain ?_ ?_ h
  ·cases o <;> first|rfl|exact absurd rfl (hnm _ _ _)
  ·cases o <;> try rfl
   rename_i c;obtain ⟨c1, c2, c3⟩ := c;cases c1 <;> first|rfl|exact absurd rfl (hne _ _ _)
theorem vbQ9 {dr : Operand → Bool} {o : Op} {σ : Operand → AV} {K : AV → List Blk → Prop} (hown : ownF dr = false) (h : opK P G dr o σ H K) : ∃ r H', xx0 P G o σ H r H' ∧ (effD dr o = false → H' = H) ∧ K r H' ∧ (kpF dr = true → isVC o = true → ∃ E, H' = H ++ E) ∧ (mkF dr = false → atF dr = true → isMk o = true → ∃ b, MkAt P o σ H b r H') ∧ (atF dr = false → isMk o = true → ∃ E, H' = H ++ E) ∧ (pcF dr = true → isVC o = true → ∀ H2, xx0 P G o σ H2 r H2) := by
 by_cases hb : isBs o = true
 ·cases o <;> try (cases hb)
  simp only [opK] at h;rcases h with h|h
  ·exact ⟨_, _, .pure h.1, fun _ => rfl, h.2, fun _ q => (by cases q), fun _ _ q => (by cases q), fun _ q => (by cases q), fun _ q => by cases q⟩
  ·rw [hown] at h; cases h.1
 ·exact kbt9 hb h
theorem vcR9 {dr : Operand → Bool} {o : Op} {σ : Operand → AV} {K : AV → List Blk → Prop} (h : opK P G dr o σ H K) : (∃ r H', xx0 P G o σ H r H' ∧ K r H') ∨ (isBs o = true ∧ (zJ0 P o σ H).1 = true ∧ K (zJ0 P o σ H).2.1 (zJ0 P o σ H).2.2) := by
 by_cases hb : isBs o = true
 ·cases o <;> try (cases hb)
  simp only [opK] at h;rcases h with h|h
  ·exact .inl ⟨_, _, .pure h.1, h.2⟩
  ·exact .inr ⟨rfl, h.2⟩
 ·refine .inl ?_;obtain ⟨r, H', h1, _, h2, _⟩ := kbt9 hb h;exact ⟨r, H', h1, h2⟩
theorem kaJ9 {ops : List Oper} {dr : Operand → Bool} {g : Bool} {o : Oper} {a : List AV} {j : Nat} {want : Bool} (hg : o.guard = some (j, want)) (hb : zU0 ops a j want = some g) {K : AV → List Blk → Prop} (h : gopK P G dr g o.op (ev G a) H K) :
  ∃ r H', kn0 P G ops o a H r H' ∧ (effD dr o.op = false → H' = H) ∧ K r H' := by
 have mk : ∀ r H', ((g = true ∧ xx0 P G o.op (ev G a) H r H') ∨ (g = false ∧ r = .tup [] ∧ H' = H) ∨ (∃ v, r = .opt g v ∧ H' = H ∧ (g = true → xx0 P G o.op (ev G a) H v H))) → kn0 P G ops o a H r H' := by
  intro r H' q;unfold kn0;rw [hg];exact ⟨g, hb, q⟩
 have plain : isMk o.op = false → (if wA0 o.op = true then g = true ∧ (xg0 P o.op (ev G a) H).1 = true ∧ K (xg0 P o.op (ev G a) H).2.1 (xg0 P o.op (ev G a) H).2.2 else (g = true → (zf0 P o.op (ev G a) H).1 = true) ∧ K (.opt g (zf0 P o.op (ev G a) H).2) H) →
   ∃ r H', kn0 P G ops o a H r H' ∧ (effD dr o.op = false → H' = H) ∧ K r H' := by
  intro hm h;split at h
  ·rename_i he;exact ⟨_, _, mk _ _ (.inl ⟨h.1, .eff he h.2.1⟩), fun q => (by simp [effD, he, hm] at q), h.2.2⟩
  ·exact ⟨_, _, mk _ _ (.inr (.inr ⟨_, rfl, rfl, fun q => .pure (h.1 q)⟩)), fun _ => rfl, h.2⟩
 unfold gopK at h;split at h
 ·rename_i f args ts hop;unfold qaV9 at h;split at h
  ·rename_i fn cap hf;obtain ⟨h1, h2, r, h3, h4⟩ := h;refine ⟨_, _, mk (.opt g r) H (.inr (.inr ⟨r, rfl, rfl, fun q => ?_⟩)), fun _ => rfl, h4⟩;have hargs : (args.toList.all fun x => (ev G a x).ok) = true := by simpa [List.all_map] using (h1 q).2
   have hmap : (args.toList.map (ev G a)).map AV.strip = args.toList.map fun x => (ev G a x).strip := by simp
   have hc := h3 q;rw [hmap] at hc;exact .call _ f fn cap hop rfl hf (h1 q).1 h2 hargs r H hc
  ·rename_i b hf;obtain ⟨hdr, h⟩ := h;split at h
   ·rename_i hgt;obtain ⟨h1, h3, r, H', hc, hk⟩ := h;have hargs : (args.toList.all fun x => (ev G a x).ok) = true := by simpa [List.all_map] using h3
    have hmap : (args.toList.map (ev G a)).map AV.strip = args.toList.map fun x => (ev G a x).strip := by simp
    rw [hmap] at hc;refine ⟨r, H', mk r H' (.inl ⟨hgt, .yield _ f b hop rfl hf h1 hargs r H' hc⟩), fun q => ?_, hk⟩;rw [hop] at q;simp [effD, wA0, hdr] at q
   ·rename_i hgf;exact ⟨_, H, mk (.tup []) H (.inr (.inl ⟨by simpa using hgf, rfl, rfl⟩)), fun _ => rfl, h⟩
  ·exact h.elim
 ·rename_i t l c hop;split at h
  ·obtain ⟨r, hm, hk⟩ := h;exact ⟨_, _, mk (.opt g r) H (.inr (.inr ⟨r, rfl, rfl, fun q => by rw [hop]; exact .made rfl r (hm q)⟩)), fun _ => rfl, hk⟩
  ·rename_i hmk;exact ⟨_, _, mk _ _ (.inl ⟨h.1, by rw [hop]; exact .eff rfl h.2.1⟩), fun q => (by rw [hop] at q; simp [effD, wA0, isMk, hmk] at q), h.2.2⟩
 ·rename_i hne hnm;refine plain ?_ h
  revert hnm
  cases o.op <;> intro hnm <;> first|rfl|exact absurd rfl (hnm _ _ _)
theorem wN0 {ops : List Oper} {dr : Operand → Bool} {K : List AV → List Blk → Prop} : ∀ (l : List Oper) (a : List AV) (H : List Blk), tops P G dr ops K l a H → qcR9 P G ops K l a H
 | [], a, H, h => h
 | o :: l, a, H, h => by
  unfold tops at h;split at h
  ·rename_i hg;rcases vcR9 h with ⟨r, H', h1, h2⟩|⟨h0, h1, h2⟩
   ·exact ⟨r, H', .inl (by unfold kn0; rw [hg]; exact h1), wN0 l _ _ h2⟩
   ·exact ⟨_, _, .inr ⟨hg, h0, h1, rfl, rfl⟩, wN0 l _ _ h2⟩
  ·rename_i j want hg;split at h
   ·rename_i g hb;obtain ⟨r, H', h1, _, h2⟩ := kaJ9 hg hb h;exact ⟨r, H', .inl h1, wN0 l _ _ h2⟩
   ·exact h.elim
theorem xU0 {ops : List Oper} {dr : Operand → Bool} (hown : ownF dr = false) {K : List AV → List Blk → Prop} : ∀ (l : List Oper) (a : List AV) (H : List Blk), tops P G dr ops K l a H → zbQ9 P G dr ops K l a H
 | [], a, H, h => h
 | o :: l, a, H, h => by
  unfold tops at h;split at h
  ·rename_i hg;obtain ⟨r, H', h1, h3, h2, _⟩ := vbQ9 hown h;exact ⟨r, H', ⟨by unfold kn0; rw [hg]; exact h1, h3⟩, xU0 hown l _ _ h2⟩
  ·rename_i j want hg;split at h
   ·rename_i g hb;obtain ⟨r, H', h1, h3, h2⟩ := kaJ9 hg hb h;exact ⟨r, H', ⟨h1, h3⟩, xU0 hown l _ _ h2⟩
   ·exact h.elim
def mFlag (q : Operand → Bool) (o : Oper) : Bool := !mkF q && atF q && isMk o.op && o.guard.isNone
def ChainK (P : Program) (G : Glob) (q : Operand → Bool) (ops : List Oper) (K : List AV → List Blk → Prop) : List Oper → List AV → List Blk → Prop
 | [], a, H => K a H
 | o :: rest, a, H => ∃ r H', (vaU9 P G q ops o a H r H' ∧ (kpF q = true → o.guard = none → isVC o.op = true → ∃ E, H' = H ++ E) ∧ (mFlag q o = true → ∃ b, MkAt P o.op (ev G a) H b r H') ∧ (atF q = false → isMk o.op = true → o.guard = none → ∃ E, H' = H ++ E) ∧ (pcF q = true → o.guard = none → isVC o.op = true → ∀ H2, kn0 P G ops o a H2 r H2)) ∧ ChainK P G q ops K rest (putA a o.dst r) H'
theorem wU0 {ops : List Oper} {dr : Operand → Bool} (hown : ownF dr = false) {K : List AV → List Blk → Prop} : ∀ (l : List Oper) (a : List AV) (H : List Blk), tops P G dr ops K l a H → ChainK P G dr ops K l a H
 | [], a, H, h => h
 | o :: l, a, H, h => by
  unfold tops at h;split at h
  ·rename_i hg;obtain ⟨r, H', h1, h3, h2, h4⟩ := vbQ9 hown h;exact ⟨r, H', ⟨⟨by unfold kn0; rw [hg]; exact h1, h3⟩, fun p _ q => h4.1 p q, fun q => by
    simp only [mFlag, Bool.and_eq_true, Bool.not_eq_true'] at q;exact h4.2.1 q.1.1.1 q.1.1.2 q.1.2, fun q w _ => h4.2.2.1 q w, fun p _ q H2 => by unfold kn0; rw [hg]; exact h4.2.2.2 p q H2⟩, wU0 hown l _ _ h2⟩
  ·rename_i j want hg;split at h
   ·rename_i g hb;obtain ⟨r, H', h1, h3, h2⟩ := kaJ9 hg hb h;exact ⟨r, H', ⟨⟨h1, h3⟩, fun _ q => (by rw [hg] at q; cases q), fun q => (by simp [mFlag, hg] at q), fun _ _ q => (by rw [hg] at q; cases q), fun _ q => by rw [hg] at q; cases q⟩, wU0 hown l _ _ h2⟩
   ·exact h.elim
def noQ : Operand → Bool := fun _ => false
def allQ : Operand → Bool := fun _ => true
def exQ (ts fs : List Nat) : Operand → Bool
 | .tmp t => !ts.contains t
 | .func f => !fs.contains f
 | _ => true
def mxQ : Operand → Bool
 | .global 1 => false
 | _ => true
def kpQ (ts fs : List Nat) : Operand → Bool
 | .tmp t => !ts.contains t
 | .func f => !fs.contains f
 | .global 2 => false
 | _ => true
theorem zdi9 (f : Operand) : noQ f = false := rfl
theorem kcR9 (f : Operand) : allQ f = true := rfl
theorem waD9 {id : Nat} {ops : List Oper} {dr : Operand → Bool} (h : tops P G dr ops (Q .normal) ops a H) : AWp ρ P G n0 (.region id ops.toArray false) Q a H := fun ro S act hr0 h1 h2 h3 h4 => by
 refine wpIn_region ?_;have := xar9 (ro := ro) (Q := fun e => Ends G n0 S H act.defers (Q e)) (fun act w q => q) ops 0 a H S act (fun j => by simp) (wN0 _ _ _ h) h1 h2 h3 (Ext.refl _ _ _) h4 (Marks.refl _ _ _ _);rw [List.range_eq_range'];simpa using this
theorem xcr9 {id : Nat} {ops : List Oper} {dr : Operand → Bool} (hown : ownF dr = false) (hm : P.follows .mixedOrders = true) (ho : qaf9 dr ops = true) (h : tops P G dr ops (Q .normal) ops a H) : AWp ρ P G n0 (.region id ops.toArray true) Q a H := fun ro S act hr0 h1 h2 h3 h4 => by
 refine wpIn_region_any hm ?_;obtain ⟨T, hT, hlex⟩ := kbi9 ho;have hA := xaD9 (md := .any) hT ops 0 (Array.replicate ops.length false) a H (fun j => by simp) hlex (fun k o _ hk => by
  exfalso;rw [Array.getD_eq_getD_getElem?] at hk;rcases Nat.lt_or_ge k ops.length with q|q
  ·rw [Array.getElem?_replicate, if_pos q] at hk; cases hk
  ·rw [Array.getElem?_replicate, if_neg (by omega)] at hk; cases hk) (xU0 hown _ _ _ h)
 let S1 : St := S.with (S.w.drewN 1)
 have hok1 : S1.Ok H := ⟨h1.imm, h1.row, h1.ob, h1.inj⟩;have hext : Ext n0 S H S1 H := ⟨rfl, rfl, rfl, Nat.le_refl _, fun _ _ _ => rfl, fun _ _ q => q, fun _ q => .inl q, fun _ q => .inl q, fun _ _ _ _ q => ⟨_, Nat.le_refl _, q, fun _ => rfl⟩, fun _ _ _ q => q, fun q => q⟩;have := xbQ9 (ro := ro) (Q := fun e => Ends G n0 S H act.defers (Q e)) (fun act w q => q) ops.length (Array.replicate ops.length false) a H S1 act hA hok1 h2 h3 hext h4 (Marks.refl _ _ _ _);have e : ops.toArray.size = ops.length := by simp
 rw [e];exact this
end
mutual
def AV.ids (p : Nat → Bool) : AV → Bool
 | .own b _ _ _ => p b
 | .ptr b _ _ _ => p b
 | .mp b => p b
 | .sub b _ _ _ => p b
 | .yld b => p b
 | .agg cs => idsL p cs
 | .tup cs => idsL p cs
 | .sl _ es _ => idsE p es
 | .iptr cs _ => idsL p cs
 | .fn _ cs => idsL p cs
 | .bnd _ cs => idsL p cs
 | .opt _ v => AV.ids p v
 | _ => true
def idsL (p : Nat → Bool) : List AV → Bool
 | [] => true
 | a :: as => AV.ids p a && idsL p as
def idsE (p : Nat → Bool) : List (List AV) → Bool
 | [] => true
 | e :: es => idsL p e && idsE p es
end
structure Env.agree (p : Nat → Bool) (E E' : Env) : Prop where
 M : ∀ k o, E.M k = some o → E'.M k = some o
 sh : ∀ b, p b = true → E'.sh b = E.sh b ∧ E'.μ b = E.μ b ∧ E'.ν b = E.ν b
mutual
theorem Rel.move {p : Nat → Bool} {E E' : Env} (h : E.agree p E') : ∀ (a : AV) (v : Value), a.ids p = true → Rel E a v → Rel E' a v
 | .int k n, v, _, hr => by simpa [Rel] using hr
 | .bool b, v, _, hr => by simpa [Rel] using hr
 | .str s, v, _, hr => by simpa [Rel] using hr
 | .agg cs, v, hi, hr => by
  simp only [Rel, AV.ids] at hr hi ⊢;obtain ⟨vs, hv, hl, h1⟩ := hr;exact ⟨vs, hv, RelL.move h cs vs hi hl, h1⟩
 | .tup cs, v, hi, hr => by
  simp only [Rel, AV.ids] at hr hi ⊢;obtain ⟨vs, hv, hl⟩ := hr;exact ⟨vs, hv, RelL.move h cs vs hi hl⟩
 | .sl s es c, v, hi, hr => by
  simp only [Rel, AV.ids] at hr hi ⊢;obtain ⟨a, cap, hv, h1, h2, h3, h4⟩ := hr;refine ⟨a, cap, hv, h1, h2, h3, ?_⟩;rcases h4 with h4|⟨g, off, ha, he⟩
  ·exact .inl h4
  ·exact .inr ⟨g, off, ha, RelE.move h s es g off hi he⟩
 | .own b n hh c, v, hi, hr => by
  simp only [Rel, AV.ids] at hr hi ⊢;obtain ⟨h1, h2, _⟩ := h.sh b hi;rw [h1, h2]; exact hr
 | .ptr b i o hh, v, hi, hr => by
  simp only [Rel, AV.ids] at hr hi ⊢;obtain ⟨h1, h2, _⟩ := h.sh b hi;rw [h1, h2]; exact hr
 | .iptr cs o, v, hi, hr => by
  simp only [Rel, AV.ids] at hr hi ⊢;obtain ⟨g, off, hv, hc⟩ := hr;exact ⟨g, off, hv, RelC.move h cs g off hi hc⟩
 | .fn f cap, v, hi, hr => by
  simp only [Rel, AV.ids] at hr hi ⊢;obtain ⟨vs, hv, hl⟩ := hr;exact ⟨vs, hv, RelL.move h cap vs hi hl⟩
 | .bnd f cap, v, hi, hr => by
  simp only [Rel, AV.ids] at hr hi ⊢;obtain ⟨vs, hv, hl⟩ := hr;exact ⟨vs, hv, RelL.move h cap vs hi hl⟩
 | .sub b i n hh, v, hi, hr => by
  simp only [Rel, AV.ids] at hr hi ⊢;obtain ⟨h1, h2, _⟩ := h.sh b hi;rw [h1, h2]; exact hr
 | .mp b, v, hi, hr => by
  simp only [Rel, AV.ids] at hr hi ⊢;rw [(h.sh b hi).2.2]; exact hr
 | .opt g w, v, hi, hr => by
  simp only [Rel, AV.ids] at hr hi ⊢;exact ⟨fun hg => Rel.move h w v hi (hr.1 hg), hr.2⟩
 | .lit u, v, _, hr => by simpa [Rel] using hr
 | .anyb, v, _, hr => by simpa [Rel] using hr
 | .anyi k, v, _, hr => by simpa [Rel] using hr
 | .err, v, _, hr => by simpa [Rel] using hr
 | .top, v, _, hr => by simp [Rel]
 | .yld b, v, hi, hr => by
  simp only [Rel, AV.ids] at hr hi ⊢;rw [(h.sh b hi).2.2]; exact hr
theorem RelL.move {p : Nat → Bool} {E E' : Env} (h : E.agree p E') : ∀ (as : List AV) (vs : List Value), idsL p as = true → RelL E as vs → RelL E' as vs
 | [], vs, _, hr => by simpa [RelL] using hr
 | a :: as, vs, hi, hr => by
  simp only [RelL, idsL, Bool.and_eq_true] at hr hi ⊢;obtain ⟨u, us, hv, h1, h2⟩ := hr;exact ⟨u, us, hv, Rel.move h a u hi.1 h1, RelL.move h as us hi.2 h2⟩
theorem RelC.move {p : Nat → Bool} {E E' : Env} (h : E.agree p E') : ∀ (as : List AV) (g off : Nat), idsL p as = true → RelC E as g off → RelC E' as g off
 | [], g, off, _, hr => by simp [RelC]
 | a :: as, g, off, hi, hr => by
  simp only [RelC, idsL, Bool.and_eq_true] at hr hi ⊢;obtain ⟨⟨u, hu, h1, hr1⟩, hr2⟩ := hr;exact ⟨⟨u, xaB9 h.M hu, h1, Rel.move h a u hi.1 hr1⟩, RelC.move h as g (off + 1) hi.2 hr2⟩
theorem RelE.move {p : Nat → Bool} {E E' : Env} (h : E.agree p E') (s : Nat) : ∀ (es : List (List AV)) (g off : Nat), idsE p es = true → RelE E s es g off → RelE E' s es g off
 | [], g, off, _, hr => by simp [RelE]
 | e :: es, g, off, hi, hr => by
  simp only [RelE, idsE, Bool.and_eq_true] at hr hi ⊢;exact ⟨hr.1, RelC.move h e g off hi.1 hr.2.1, RelE.move h s es g (off + s) hi.2 hr.2.2⟩
end
def kX0 : Nat → Bool := fun _ => false
def AV.closed (v : AV) : Bool := v.ids kX0
theorem ww0 {E E' : Env} (h : ∀ k o, E.M k = some o → E'.M k = some o) : E.agree kX0 E' := ⟨h, fun b hb => by cases hb⟩
section lists
variable {p : Nat → Bool}
theorem qY0 (as : List AV) : idsL p as = true ↔ ∀ a ∈ as, a.ids p = true := by
 induction as with
 | nil => simp [idsL]
 | cons a as ih => simp [idsL, ih]
theorem xq0 (es : List (List AV)) : idsE p es = true ↔ ∀ e ∈ es, idsL p e = true := by
 induction es with
 | nil => simp [idsE]
 | cons e es ih => simp [idsE, ih]
theorem zn0 {α : Type} (xs : List α) (f : α → List AV) (h : ∀ x, idsL p (f x) = true) : idsE p (xs.map f) = true := by
 rw [xq0]; intro e he;obtain ⟨x, _, rfl⟩ := List.mem_map.1 he;exact h x
end lists
section
variable {P : Program} {G : Glob}
def PC (P : Program) (G : Glob) (f : FuncId) (args : List AV) (r : AV) : Prop := qg0 P G f args [] r []
theorem kf0 {f : FuncId} {args : List AV} {r : AV} (h : PC P G f args r) (hc : idsL kX0 args = true) (H : List Blk) : qg0 P G f args H r H := fun S vals hok hG ha => by
 let S0 : St := ⟨S.M, fun _ => none, fun _ => none, S.w⟩
 have hat0 : ∀ (T : St) b, T.at [] b = none := fun T b => by simp [St.at]
 have hok0 : S0.Ok [] := ⟨hok.imm, fun b s t es hb => by simp at hb, fun b ob0 hb => by simp at hb, fun b b' g hb => by rw [hat0] at hb; cases hb⟩;have hargs : RelL (S0.env []) args vals := RelL.move (ww0 (E := S.env H) (E' := S0.env []) fun k o q => q) _ _ hc ha;refine (h S0 vals hok0 hG hargs).mono fun e w' hh => ?_;obtain ⟨v, S1, rfl, rfl, hok1, hext, hr⟩ := hh;have howns : ∀ (T : St) k, ¬ T.Owns [] k := fun T k ⟨b, hb⟩ => by rw [hat0] at hb; cases hb
 let S' : St := ⟨S1.M, S.μ, S.ν, S1.w⟩
 have hsame : ∀ k, k < S.w.heap.size → S1.w.heap[k]? = S.w.heap[k]? := fun k hk => hext.keep k hk (howns _ _);have hMn : ∀ g, g < S.w.heap.size → S.M g = none → S1.M g = none := fun g hg hn => by
  cases hM : S1.M g with
  | none => rfl
  | some o =>
   rcases hext.dom g (by rw [hM]; simp) with q|q|q
   ·exact absurd hn q
   ·exact absurd q (howns _ _)
   ·exact absurd hg (by show ¬ g < S0.w.heap.size; omega)
 have hle : (S.env H).le (S'.env H) := ⟨hext.M, fun b s cur hb => ⟨cur, Nat.le_refl _, hb, fun _ => rfl⟩, fun b g hb => hb⟩;have hok' : S'.Ok H := by
  refine ⟨hok1.imm, fun b s t es hb => ?_, fun b ob0 hb => ?_, fun b b' g hb hb' => hok.inj b b' g hb hb'⟩
  ·rcases hok.row b s t es hb with q|⟨g, k, cs, h1, h2, h3, h4, h5, h6, h7⟩
   ·exact .inl q
   ·have hlt := (Array.getElem?_eq_some_iff.1 h3).1;exact .inr ⟨g, k, cs, h1, hMn g hlt h2, (hsame g hlt).trans h3, h4, h5, h6, h7.mono hle⟩
  ·obtain ⟨g, ob1, h1, h2, h3, h4⟩ := hok.ob b ob0 hb;have hlt := (Array.getElem?_eq_some_iff.1 h3).1;exact ⟨g, ob1, h1, hMn g hlt h2, (hsame g hlt).trans h3, h4.mono hle⟩
 refine ⟨v, S', rfl, rfl, hok', ⟨hext.os, hext.tape, hext.output, hext.size, fun k hk _ => hsame k hk, hext.M, fun k hk => ?_, fun k hk => .inl hk, fun b s cur _ hb => ⟨cur, Nat.le_refl _, hb, fun _ => rfl⟩, fun b g _ hb => hb, fun q => q⟩, ?_⟩
 ·rcases hext.dom k hk with q|q|q
  ·exact .inl q
  ·exact absurd q (howns _ _)
  ·exact .inr (.inr q)
 ·have hle2 : (S1.env []).le (S'.env H) := ⟨fun k o q => q, fun b s cur hb => by simp [St.env, shOf] at hb, fun b g hb => by simp [St.env, mpOf] at hb⟩;exact Rel.mono hle2 r v hr
def zal9 (P : Program) (a : List AV) (H : List Blk) : ResultVar → Bool × AV
 | .tmp t => ((getA a t).ok, (getA a t).strip)
 | .cell b t => ((getA a b).ok && (zQ0 P H t (getA a b).strip).1, (zQ0 P H t (getA a b).strip).2)
def ares (P : Program) (rs : List ResultVar) (a : List AV) (H : List Blk) : Bool × AV :=
 match rs with
 | [r] => zal9 P a H r
 | rs => (rs.all fun r => (zal9 P a H r).1, .tup (rs.map fun r => (zal9 P a H r).2))
theorem wcr9 {S : St} {H : List Blk} {a : List AV} {ts : Array Value} (hok : S.Ok H) (ha : RelL (S.env H) a ts.toList) (r : ResultVar) (h : (zal9 P a H r).1 = true) :
  ∃ v, (match r with|.tmp t => pure (ts.getD t undef)|.cell a t => do loadVar t (← asAddr (ts.getD a undef)) : Sem Value).run P S.w = .ok v S.w ∧ Rel (S.env H) (zal9 P a H r).2 v := by
 cases r with
 | tmp t => exact ⟨_, rfl, (vam9 ha t).strip h⟩
 | cell b t =>
  simp only [zal9, Bool.and_eq_true] at h ⊢;have hr := (vam9 ha b).strip h.1;obtain ⟨u, hu, hru⟩ := kbs9 (P := P) hok hr h.2;refine ⟨u, ?_, hru⟩;have hp : ∃ ad, ts.getD b undef = .pointer (some ad) := by
   have h2 := h.2;unfold zQ0 at h2;cases hT : kc0 P t with
   | none => rw [hT] at h2; cases h2
   | some T =>
    simp only [hT] at h2;generalize (getA a b).strip = x at h2 hr;cases x with
    | ptr b' i o hh =>
     simp only at h2;cases hb : H[b']? with
     | none => rw [hb] at h2; cases h2
     | some B =>
      cases B with
      | ob _ => rw [hb] at h2; cases h2
      | row s bt es =>
       simp only [hb, Bool.and_eq_true, decide_eq_true_eq] at h2;obtain ⟨s', g, k, _, _, hv⟩ := kB0 hr (by simp [zj0, qo0 hb, h2.1.1]);exact ⟨_, hv⟩
    | iptr cs o =>
     simp only [Rel] at hr;obtain ⟨g, off, hv, _⟩ := hr;exact ⟨_, hv⟩
    | _ => simp only at h2; cases h2
  obtain ⟨ad, had⟩ := hp;rw [had] at hu ⊢;simpa [Instr.loadAt, Instr.sureAddr, asAddr] using hu
theorem qcS9 {S : St} {H : List Blk} {a : List AV} {ts : Array Value} {fn : Func} (hok : S.Ok H) (ha : RelL (S.env H) a ts.toList) (h : (ares P fn.results.toList a H).1 = true) :
  ∃ v, (results fn ts).run P S.w = .ok v S.w ∧ Rel (S.env H) (ares P fn.results.toList a H).2 v := by
 have hm : ∀ rs : List ResultVar, (rs.all fun r => (zal9 P a H r).1) = true → ∃ vs : List Value, (rs.mapM fun r => (match r with|.tmp t => pure (ts.getD t undef)|.cell a t => do loadVar t (← asAddr (ts.getD a undef)) : Sem Value)).run P S.w = .ok vs S.w ∧ RelL (S.env H) (rs.map fun r => (zal9 P a H r).2) vs := by
  intro rs;induction rs with
  | nil => intro _; exact ⟨[], by simp, by simp [RelL]⟩
  | cons r rs ih =>
   intro hall;simp only [List.all_cons, Bool.and_eq_true] at hall;obtain ⟨v, hv, hr⟩ := wcr9 hok ha r hall.1;obtain ⟨vs, hvs, hrs⟩ := ih hall.2;refine ⟨v :: vs, ?_, ?_⟩
   ·simp only [List.mapM_cons, Sem.run_bind, hv, hvs, Result.andThen_ok, Sem.run_pure]
   ·simp only [List.map_cons, RelL]; exact ⟨v, vs, rfl, hr, hrs⟩
 have hall : (fn.results.toList.all fun r => (zal9 P a H r).1) = true := by
  unfold ares at h;split at h
  ·rename_i r hrs; simp only [hrs, List.all_cons, List.all_nil, Bool.and_true]; exact h
  ·exact h
 obtain ⟨vs, hvs, hrs⟩ := hm _ hall;have hl : vs.length = fn.results.toList.length := by rw [← hrs.length]; simp
 have hrun : (results fn ts).run P S.w = .ok (if h : vs.toArray.size = 1 then vs.toArray[0] else .tuple vs.toArray) S.w := by
  unfold results;rw [Array.mapM_eq_mapM_toList];simp only [Sem.run_bind, Sem.run_map]
  erw [hvs]
  rfl
 rw [hrun];refine ⟨_, rfl, ?_⟩;unfold ares;split
 ·rename_i r hrs';rw [hrs'] at hrs hl;simp only [List.map_cons, List.map_nil, RelL] at hrs;obtain ⟨u, us, rfl, hr, rfl⟩ := hrs;simpa using hr
 ·rename_i hne;have : ¬ vs.toArray.size = 1 := by
   intro hv;simp only [List.size_toArray] at hv;rw [hl] at hv;obtain ⟨r, hr⟩ := List.length_eq_one_iff.1 hv;exact hne r hr
  rw [dif_neg this];simp only [Rel];exact ⟨vs, rfl, hrs⟩
def Closes (n0 : Nat) (H' : List Blk) (v : AV) (r : AV) (Hf : List Blk) : Prop :=
 ∀ (S' : St) (u : Value), S'.Ok H' → n0 ≤ H'.length → Rel (S'.env H') v u → ∃ S'', S''.w = S'.w ∧ S''.Ok Hf ∧ Ext n0 S' H' S'' Hf ∧ Rel (S''.env Hf) r u
def Fin (P : Program) (fn : Func) (n0 : Nat) (r : AV) (Hf : List Blk) : Post := fun e a' H' =>
 (e = .normal ∨ e = .ret) ∧ (ares P fn.results.toList a' H').1 = true ∧ Closes n0 H' (ares P fn.results.toList a' H').2 r Hf
def St.shut (S : St) (g : Nat) (o : Obj) : St := { S with w := S.w.putObj g o }
theorem zbj9 {S : St} {H : List Blk} {g : Nat} (hok : S.Ok H) (hf : S.Free H g) (o : Obj) : (S.shut g o).Ok H := by
 have hne : ∀ b k, S.at H b = some k → k ≠ g := fun b k hb e => hf.1 ⟨b, by rw [← e]; exact hb⟩;have hother : ∀ k, k ≠ g → (S.shut g o).w.heap[k]? = S.w.heap[k]? := fun k hk => World.putObj_heap_other hk;refine ⟨fun k o' hk => ?_, fun b s t es hb => ?_, fun b x hb => ?_, hok.inj⟩
 ·have : k ≠ g := fun e => by rw [e] at hk; exact absurd hk (by show ¬ S.M g = some o'; rw [hf.2]; simp)
  exact (hother k this).trans (hok.imm k o' hk)
 ·rcases hok.row b s t es hb with q|⟨g', k, cs, h1, h2, h3, h4⟩
  ·exact .inl q
  ·exact .inr ⟨g', k, cs, h1, h2, (hother g' (hne b g' (by simp [St.at, hb, h1]))).trans h3, h4⟩
 ·obtain ⟨g', ob1, h1, h2, h3, h4⟩ := hok.ob b x hb;exact ⟨g', ob1, h1, h2, (hother g' (hne b g' (by simp [St.at, hb, h1]))).trans h3, h4⟩
theorem vcr9 {S0 S : St} {n0 : Nat} {H0 H : List Blk} {g : Nat} (h : Ext n0 S0 H0 S H) (hg : S0.w.heap.size ≤ g) (o : Obj) : Ext n0 S0 H0 (S.shut g o) H :=
 { h with
  size := by simpa [St.shut] using h.size
  keep := fun k hk hn => (World.putObj_heap_other (by omega)).trans (h.keep k hk hn) }
theorem vaj9 {S0 : St} {n0 : Nat} {H0 H : List Blk} {fn : Func} {ts : Array Value} {R : Ending → World → Prop} : ∀ (Ds : List Nat) (S : St), S.Ok H → Ext n0 S0 H0 S H → Ds.Pairwise (fun x y => y < x) → (∀ g ∈ Ds, S0.w.heap.size ≤ g ∧ S.Free H g ∧ S.w.heap[g]? = some (.deferred (some []))) →
  (∀ S' : St, S'.Ok H → Ext n0 S0 H0 S' H → S'.M = S.M → S'.μ = S.μ → S'.ν = S.ν → ∃ v, (results fn ts).run P S'.w = .ok v S'.w ∧ R (.returned v) S'.w) → LeavesInM Fence.wide 0 P fn ts R (Ds.map mark) .returning S.w
 | [], S, hok, hext, _, _, hR => by
  obtain ⟨v, h1, h2⟩ := hR S hok hext rfl rfl rfl;exact ⟨v, h1, h2⟩
 | g :: Ds, S, hok, hext, hp, hq, hR => by
  obtain ⟨q1, q2, q3⟩ := hq g (by simp);rw [List.pairwise_cons] at hp;refine ⟨by simp, .inl ⟨g, _, rfl, run_takeDeferred q3, ?_⟩⟩;exact vaj9 Ds (S.shut g (.deferred none)) (zbj9 hok q2 _) (vcr9 hext q1 _) hp.2 (fun g' hg' => by
   obtain ⟨r1, r2, r3⟩ := hq g' (by simp [hg']);have := hp.1 g' hg';exact ⟨r1, r2, (World.putObj_heap_other (by omega)).trans r3⟩) hR
theorem zY0 {f : FuncId} {fn : Func} {c : Code} {args : List AV} {H Hf : List Blk} {r : AV} (hf : P.funcs[f]? = some fn) (hb : fn.body = some c)
  (h : AWp false P G H.length c (Fin P fn H.length r Hf) (args ++ List.replicate (fn.ntmps - args.length) (.tup [])) H) : qg0 P G f args H r Hf := fun S vals hok hG ha => by
 have hl := ha.length;have hw := h none S { tmps := vals.toArray ++ Array.replicate (fn.ntmps - vals.toArray.size) undef, defers := [] } rfl hok hG (Nat.le_refl _) (by
  simp only [Array.toList_append, Array.toList_replicate, List.size_toArray, hl];exact ha.append (RelL.replicate (by simp [Rel, RelL, undef]) _))
 refine (callsIn_wide (n := 0)).1 (callsIn_of_wp_marks (F := Fence.wide) hf hb trivial (wpIn_mono hw fun e act w hE => ?_));obtain ⟨a', H', S', rfl, ⟨he, har, hcl⟩, hok', hext, ha', Ds, hd, hp, hq⟩ := hE;have key : LeavesInM Fence.wide 0 P fn act.tmps (fun e w' => ∃ v S', e = .returned v ∧ S'.w = w' ∧ S'.Ok Hf ∧ Ext H.length S H S' Hf ∧ Rel (S'.env Hf) r v) act.defers .returning S'.w := by
  rw [hd, List.append_nil];refine vaj9 Ds S' hok' hext hp hq fun T tok text tM tμ tν => ?_;have henv : T.env H' = S'.env H' := by simp only [St.env, tM, tμ, tν]
  obtain ⟨v, hv, hr⟩ := qcS9 tok (by rw [henv]; exact ha') har;obtain ⟨S'', e1, e2, e3, e4⟩ := hcl T v tok (hext.len (Nat.le_refl _)) hr;exact ⟨v, hv, v, S'', rfl, e1, e2, text.trans e3, e4⟩
 rcases he with rfl|rfl
 ·exact key
 ·exact key
def kh0 (H : List Blk) : Nat → AV → AV
 | 0, v => v
 | d + 1, .own b n h c =>
  match H[b]? with
  | some (.row s _ es) => .sl s ((es.take n).map fun e => e.map (kh0 H d)) c
  | _ => .own b n h c
 | d + 1, .ptr b i o h =>
  match H[b]? with
  | some (.row _ _ es) => .iptr ((es.getD i []).map (kh0 H d)) o
  | _ => .ptr b i o h
 | d + 1, .fn f cap => .fn f (cap.map (kh0 H d))
 | _ + 1, v => v
def okC (H : List Blk) : Nat → AV → Bool
 | 0, v => v.closed
 | d + 1, .own b n h c => zj0 H b h && (match H[b]? with|some (.row _ _ es) => (es.take n).all fun e => e.all (okC H d)|_ => false)
 | d + 1, .ptr b i o h => zj0 H b h && (match H[b]? with|some (.row _ _ es) => decide (i < es.length) && (es.getD i []).all (okC H d)|_ => false)
 | d + 1, .fn f cap => cap.all (okC H d)
 | _ + 1, v => v.closed
def kx0 (H : List Blk) (d : Nat) : AV → AV
 | .agg cs => .agg (cs.map (kh0 H d))
 | v => kh0 H d v
def okA (H : List Blk) (d : Nat) : AV → Bool
 | .agg cs => cs.all (okC H d)
 | v => okC H d v
def qS0 (H : List Blk) (d : Nat) : AV → AV
 | .tup vs => .tup (vs.map (kx0 H d))
 | v => kx0 H d v
def okR (H : List Blk) (d : Nat) : AV → Bool
 | .tup vs => vs.all (okA H d)
 | v => okA H d v
open Classical in
noncomputable def St.freeze (S : St) (H : List Blk) : St := { S with M := fun k => if S.Owns H k then S.w.heap[k]? else S.M k, μ := fun _ => none, ν := fun _ => none }
theorem xY0 {S : St} {H : List Blk} (hok : S.Ok H) {k : Nat} {o : Obj} (h : S.M k = some o) : (S.freeze H).M k = some o := by
 simp only [St.freeze];split
 ·exact hok.imm k o h
 ·exact h
theorem zaf9 {S : St} {H : List Blk} {k : Nat} (h : S.Owns H k) : (S.freeze H).M k = S.w.heap[k]? := by
 simp only [St.freeze]; rw [if_pos h]
theorem wY0 {S : St} {H : List Blk} (hok : S.Ok H) : (S.freeze H).Ok [] := by
 refine ⟨fun k o hk => ?_, fun b s t es hb => by simp at hb, fun b ob0 hb => by simp at hb, fun b b' g hb => by simp [St.at] at hb⟩;simp only [St.freeze] at hk ⊢;split at hk
 ·exact hk
 ·exact hok.imm k o hk
theorem vaD9 {S : St} {H : List Blk} (hok : S.Ok H) : Ext 0 S H (S.freeze H) [] where
 os := rfl
 tape := rfl
 output := rfl
 size := Nat.le_refl _
 keep _ _ _ := rfl
 M k o h := xY0 hok h
 dom k h := by
  simp only [St.freeze] at h;split at h
  ·rename_i ho; exact .inr (.inl ho)
  ·exact .inl h
 own k h := by obtain ⟨b, hb⟩ := h; simp [St.at] at hb
 sh b s cur hb := by omega
 ν b g hb := by omega
 len _ := by omega
theorem wD0 {S : St} {H : List Blk} (hok : S.Ok H) : ∀ (d : Nat) (v : AV) (u : Value), okC H d v = true → Rel (S.env H) v u → Rel ((S.freeze H).env []) (kh0 H d v) u
 | 0, v, u, h, hr => by
  simp only [okC, kh0] at *;exact Rel.move (ww0 fun k o => xY0 hok) v u h hr
 | d + 1, v, u, h, hr => by
  have other : okC H (d + 1) v = v.closed → kh0 H (d + 1) v = v → Rel ((S.freeze H).env []) (kh0 H (d + 1) v) u := fun h1 h2 => by
   rw [h2]; rw [h1] at h;exact Rel.move (ww0 fun k o => xY0 hok) v u h hr
  cases v with
  | own b n hh c =>
   simp only [okC, Bool.and_eq_true] at h;cases hb : H[b]? with
   | none => rw [hb] at h; cases h.2
   | some B =>
    cases B with
    | ob _ => rw [hb] at h; cases h.2
    | row s t es =>
     simp only [hb] at h;simp only [kh0, hb];obtain ⟨s', hs, hn, hcase⟩ := qu0 hr h.1;rw [qo0 hb] at hs; injection hs with hs; injection hs with e1 e2; subst e1
     rcases hcase with ⟨_, ⟨a0, rfl⟩, rfl, hc⟩|⟨g, k, cap, hg, rfl, hncap, hcapk, hcn, hcs⟩
     ·simp only [Rel];refine ⟨a0, 0, by simp, by simp, by simp [maxLen], fun k hk => ?_, .inl (by simp)⟩;rcases hc with rfl|rfl
      ·cases hk
      ·injection hk
     ·obtain ⟨g0, k0, cs, q1, q2, q3, q4, q5, q6, q7⟩ := (hok.row b s t es hb).resolve_left (fun q => by rw [q.1] at hg; cases hg);rw [hg] at q1; injection q1 with q1; injection q1 with e1 e3; subst e1; subst e3
      have hM : (S.freeze H).M g = some (.cells cs t (0, 0)) := by
       rw [zaf9 ⟨b, by simp [St.at, hb, hg]⟩]; exact q3
      have hlen : ((es.take n).map fun e => e.map (kh0 H d)).length = n := by simp; omega
      simp only [Rel];refine ⟨some ⟨g, 0, none⟩, cap, by rw [hlen], by rw [hlen]; exact hncap, by omega, fun k hk => hcs k hk, .inr ⟨g, 0, rfl, RelE.mk fun i e hi => ?_⟩⟩;rw [List.getElem?_map, List.getElem?_take] at hi;split at hi
      ·cases hei : es[i]? with
       | none => rw [hei] at hi; cases hi
       | some e0 =>
        rw [hei] at hi;simp only [Option.map_some, Option.some.injEq] at hi;subst hi;obtain ⟨l1, l2⟩ := q7 i e0 hei;refine ⟨by simpa using l1, RelC.mk fun j a hj => ?_⟩;rw [List.getElem?_map] at hj;cases hej : e0[j]? with
        | none => rw [hej] at hj; cases hj
        | some a0 =>
         rw [hej] at hj;simp only [Option.map_some, Option.some.injEq] at hj;subst hj;obtain ⟨w, hw, ho, hrw⟩ := l2 j a0 hej;refine ⟨w, ?_, ho, wD0 hok d a0 w ?_ hrw⟩
         ·show qx0 (S.freeze H).M g (0 + i * s + j) = some w;simp only [qx0, hM, Nat.zero_add];exact hw
         ·have h2 := List.all_eq_true.1 h.2 e0 (List.mem_of_getElem? (by rw [List.getElem?_take]; rw [if_pos (by assumption)]; exact hei));exact List.all_eq_true.1 h2 a0 (List.mem_of_getElem? hej)
      ·cases hi
  | ptr b i o hh =>
   simp only [okC, Bool.and_eq_true] at h;cases hb : H[b]? with
   | none => rw [hb] at h; cases h.2
   | some B =>
    cases B with
    | ob _ => rw [hb] at h; cases h.2
    | row s t es =>
     simp only [hb, Bool.and_eq_true, decide_eq_true_eq] at h;simp only [kh0, hb];obtain ⟨s', g, k, hs, hg, rfl⟩ := kB0 hr h.1;rw [qo0 hb] at hs; injection hs with hs; injection hs with e1 e2; subst e1
     obtain ⟨g0, k0, cs, q1, q2, q3, q4, q5, q6, q7⟩ := (hok.row b s t es hb).resolve_left (fun q => by rw [q.1] at hg; cases hg);rw [hg] at q1; injection q1 with q1; injection q1 with e1 e3; subst e1; subst e3
     have hM : (S.freeze H).M g = some (.cells cs t (0, 0)) := by
      rw [zaf9 ⟨b, by simp [St.at, hb, hg]⟩]; exact q3
     have hei : es[i]? = some (es.getD i []) := by
      rw [List.getD_eq_getElem?_getD, List.getElem?_eq_getElem h.2.1]; rfl
     obtain ⟨l1, l2⟩ := q7 i _ hei;simp only [Rel];refine ⟨g, i * s, rfl, RelC.mk fun j a hj => ?_⟩;rw [List.getElem?_map] at hj;cases hej : (es.getD i [])[j]? with
     | none => rw [hej] at hj; cases hj
     | some a0 =>
      rw [hej] at hj;simp only [Option.map_some, Option.some.injEq] at hj;subst hj;obtain ⟨w, hw, ho, hrw⟩ := l2 j a0 hej;refine ⟨w, ?_, ho, wD0 hok d a0 w (List.all_eq_true.1 h.2.2 a0 (List.mem_of_getElem? hej)) hrw⟩;show qx0 (S.freeze H).M g (i * s + j) = some w;simp only [qx0, hM];exact hw
  | fn f cap =>
   simp only [okC] at h;simp only [kh0, Rel] at hr ⊢;obtain ⟨vs, rfl, hl⟩ := hr;refine ⟨vs, rfl, RelL.mk (by simpa using hl.length) fun i a v ha hv => ?_⟩;rw [List.getElem?_map] at ha;cases hx : cap[i]? with
   | none => rw [hx] at ha; cases ha
   | some x =>
    rw [hx] at ha;simp only [Option.map_some, Option.some.injEq] at ha;subst ha;obtain ⟨v', hv', hr'⟩ := hl.get hx;rw [hv] at hv'; injection hv' with hv'; subst hv'
    exact wD0 hok d x v (List.all_eq_true.1 h x (List.mem_of_getElem? hx)) hr'
  | _ => exact other rfl rfl
theorem kar9 {S : St} {H : List Blk} (hok : S.Ok H) (f : AV → AV) (k : AV → Bool) (hf : ∀ v u, k v = true → Rel (S.env H) v u → Rel ((S.freeze H).env []) (f v) u) {as : List AV} {vs : List Value} (h : as.all k = true) (hr : RelL (S.env H) as vs) : RelL ((S.freeze H).env []) (as.map f) vs := by
 refine RelL.mk (by simpa using hr.length) fun i a v ha hv => ?_;rw [List.getElem?_map] at ha;cases hx : as[i]? with
 | none => rw [hx] at ha; cases ha
 | some x =>
  rw [hx] at ha;simp only [Option.map_some, Option.some.injEq] at ha;subst ha;obtain ⟨v', hv', hr'⟩ := hr.get hx;rw [hv] at hv'; injection hv' with hv'; subst hv'
  exact hf x v (List.all_eq_true.1 h x (List.mem_of_getElem? hx)) hr'
theorem xJ0 {S : St} {H : List Blk} (hok : S.Ok H) (d : Nat) (v : AV) (u : Value) (h : okA H d v = true) (hr : Rel (S.env H) v u) : Rel ((S.freeze H).env []) (kx0 H d v) u := by
 have other : okA H d v = okC H d v → kx0 H d v = kh0 H d v → Rel ((S.freeze H).env []) (kx0 H d v) u := fun h1 h2 => by
  rw [h2]; rw [h1] at h;exact wD0 hok d v u h hr
 cases v with
 | agg cs =>
  simp only [okA, kx0, Rel] at *;obtain ⟨vs, rfl, hl, h1⟩ := hr;exact ⟨vs, rfl, kar9 hok _ _ (wD0 hok d) h hl, h1⟩
 | _ => exact other rfl rfl
theorem kbQ9 {S : St} {H : List Blk} (hok : S.Ok H) (d : Nat) (v : AV) (u : Value) (h : okR H d v = true) (hr : Rel (S.env H) v u) : Rel ((S.freeze H).env []) (qS0 H d v) u := by
 have other : okR H d v = okA H d v → qS0 H d v = kx0 H d v → Rel ((S.freeze H).env []) (qS0 H d v) u := fun h1 h2 => by
  rw [h2]; rw [h1] at h;exact xJ0 hok d v u h hr
 cases v with
 | tup cs =>
  simp only [okR, qS0, Rel] at *;obtain ⟨vs, rfl, hl⟩ := hr;exact ⟨vs, rfl, kar9 hok _ _ (xJ0 hok d) h hl⟩
 | _ => exact other rfl rfl
theorem kbD9 {H' : List Blk} {v : AV} (d : Nat) (h : okR H' d v = true) : Closes 0 H' v (qS0 H' d v) [] := fun S' u hok _ hr =>
 ⟨S'.freeze H', rfl, wY0 hok, vaD9 hok, kbQ9 hok d v u h hr⟩
end
section
variable {ρ : Bool} {P : Program} {G : Glob} {n0 : Nat} {Q : Post} {a : List AV} {H : List Blk}
def zaV9 (a : List AV) : Nat → List AV → Prop
 | _, [] => True
 | k, x :: xs => getA a k = x ∧ zaV9 a (k + 1) xs
theorem kaj9 (pre args : List AV) (m : Nat) : zaV9 (pre ++ (args ++ List.replicate m (.tup []))) pre.length args := by
 induction args generalizing pre with
 | nil => trivial
 | cons x xs ih =>
  refine ⟨by simp [getA, List.getD_eq_getElem?_getD], ?_⟩;have := ih (pre ++ [x]);simpa using this
def eqv1 : List AV → List AV → Prop
 | [], [] => True
 | a :: as, b :: bs => (match a, b with|.sl s es c, .sl s' es' c' => (es = [] ∨ s = s') ∧ es = es' ∧ c = c'|a, b => a = b) ∧ eqv1 as bs
 | _, _ => False
def eqvL : List AV → List AV → Prop
 | [], [] => True
 | a :: as, b :: bs => (match a, b with|.sl s es c, .sl s' es' c' => (es = [] ∨ s = s') ∧ es = es' ∧ c = c'|.agg xs, .agg ys => eqv1 xs ys|a, b => a = b) ∧ eqvL as bs
 | _, _ => False
def AV.eqv : AV → AV → Prop
 | .sl s es c, b => match b with|.sl s' es' c' => (es = [] ∨ s = s') ∧ es = es' ∧ c = c'|_ => False
 | .tup as, b => match b with|.tup bs => eqvL as bs|_ => False
 | .agg as, b => match b with|.agg bs => eqvL as bs|_ => False
 | a, b => a = b
theorem xaf9 {E : Env} {s s' : Nat} {es es' : List (List AV)} {c c' : Option Nat} {v : Value} (h : (es = [] ∨ s = s') ∧ es = es' ∧ c = c') (hr : Rel E (.sl s es c) v) : Rel E (.sl s' es' c') v := by
 obtain ⟨h, rfl, rfl⟩ := h;rcases h with rfl|rfl
 ·simp only [Rel] at hr ⊢;obtain ⟨a, cap, h1, h2, h3, h4, _⟩ := hr;exact ⟨a, cap, h1, h2, h3, h4, by simp⟩
 ·exact hr
theorem qbu9 {E : Env} : ∀ {as bs : List AV} {vs : List Value}, eqv1 as bs → RelL E as vs → RelL E bs vs
 | [], [], _, _, hr => hr
 | [], _ :: _, _, h, _ => h.elim
 | _ :: _, [], _, h, _ => h.elim
 | a :: as, b :: bs, vs, h, hr => by
  simp only [eqv1] at h;simp only [RelL] at hr ⊢;obtain ⟨u, us, rfl, h1, h2⟩ := hr;refine ⟨u, us, rfl, ?_, qbu9 h.2 h2⟩;have h0 := h.1;split at h0
  ·exact xaf9 h0 h1
  ·subst h0; exact h1
theorem qaK9 {E : Env} : ∀ {as bs : List AV} {vs : List Value}, eqvL as bs → RelL E as vs → RelL E bs vs
 | [], [], _, _, hr => hr
 | [], _ :: _, _, h, _ => h.elim
 | _ :: _, [], _, h, _ => h.elim
 | a :: as, b :: bs, vs, h, hr => by
  simp only [eqvL] at h;simp only [RelL] at hr ⊢;obtain ⟨u, us, rfl, h1, h2⟩ := hr;refine ⟨u, us, rfl, ?_, qaK9 h.2 h2⟩;have h0 := h.1;split at h0
  ·exact xaf9 h0 h1
  ·simp only [Rel] at h1 ⊢;obtain ⟨vs, hv, hl, ho⟩ := h1;exact ⟨vs, hv, qbu9 h0 hl, ho⟩
  ·subst h0; exact h1
theorem zcS9 {E : Env} {a b : AV} {v : Value} (h : a.eqv b) (hr : Rel E a v) : Rel E b v := by
 unfold AV.eqv at h;split at h
 ·split at h
  ·exact xaf9 h hr
  ·exact h.elim
 ·split at h
  ·simp only [Rel] at hr ⊢;obtain ⟨vs, hv, hl⟩ := hr;exact ⟨vs, hv, qaK9 h hl⟩
  ·exact h.elim
 ·split at h
  ·simp only [Rel] at hr ⊢;obtain ⟨vs, hv, hl, ho⟩ := hr;exact ⟨vs, hv, qaK9 h hl, ho⟩
  ·exact h.elim
 ·subst h; exact hr
theorem Closes.eqv {n0 : Nat} {H' Hf : List Blk} {v r r' : AV} (h : Closes n0 H' v r Hf) (he : r.eqv r') : Closes n0 H' v r' Hf := fun S' u h1 h2 h3 =>
 let ⟨S'', e1, e2, e3, e4⟩ := h S' u h1 h2 h3
 ⟨S'', e1, e2, e3, zcS9 he e4⟩
theorem xdi9 (s s' : Nat) (es es' : List (List AV)) (c c' : Option Nat) : (AV.sl s es c).eqv (.sl s' es' c') = ((es = [] ∨ s = s') ∧ es = es' ∧ c = c') := rfl
theorem xcS9 (as bs : List AV) : (AV.tup as).eqv (.tup bs) = eqvL as bs := rfl
theorem wcS9 (as bs : List AV) : (AV.agg as).eqv (.agg bs) = eqvL as bs := rfl
theorem xbj9 (k : IntKind) (n : Int) (b : AV) : (AV.int k n).eqv b = (.int k n = b) := rfl
theorem kcr9 (n : Bool) (b : AV) : (AV.bool n).eqv b = (.bool n = b) := rfl
theorem vcS9 (n : List UInt8) (b : AV) : (AV.str n).eqv b = (.str n = b) := rfl
theorem kcS9 (x n h : Nat) (c : Option Nat) (b : AV) : (AV.own x n h c).eqv b = (.own x n h c = b) := rfl
theorem qcT9 (x n h o : Nat) (b : AV) : (AV.ptr x n h o).eqv b = (.ptr x n h o = b) := rfl
theorem qcs9 (cs : List AV) (o : Nat) (b : AV) : (AV.iptr cs o).eqv b = (.iptr cs o = b) := rfl
theorem wdi9 (f : FuncId) (cs : List AV) (b : AV) : (AV.fn f cs).eqv b = (.fn f cs = b) := rfl
theorem vdi9 (x : Nat) (b : AV) : (AV.mp x).eqv b = (.mp x = b) := rfl
theorem zcT9 (x : Nat) (b : AV) : (AV.yld x).eqv b = (.yld x = b) := rfl
theorem xcT9 (x : Value) (b : AV) : (AV.lit x).eqv b = (.lit x = b) := rfl
theorem wcT9 (b : AV) : AV.err.eqv b = (.err = b) := rfl
theorem kdi9 : eqvL [] [] = True := rfl
theorem qbE9 (s s' : Nat) (es es' : List (List AV)) (c c' : Option Nat) (as bs : List AV) : eqvL (.sl s es c :: as) (.sl s' es' c' :: bs) = (((es = [] ∨ s = s') ∧ es = es' ∧ c = c') ∧ eqvL as bs) := rfl
theorem wbj9 (xs ys : List AV) (as bs : List AV) : eqvL (.agg xs :: as) (.agg ys :: bs) = (eqv1 xs ys ∧ eqvL as bs) := rfl
theorem vbj9 (k : IntKind) (n : Int) (b : AV) (as bs : List AV) : eqvL (.int k n :: as) (b :: bs) = (.int k n = b ∧ eqvL as bs) := rfl
theorem xaV9 (n : Bool) (b : AV) (as bs : List AV) : eqvL (.bool n :: as) (b :: bs) = (.bool n = b ∧ eqvL as bs) := rfl
theorem kbj9 (n : List UInt8) (b : AV) (as bs : List AV) : eqvL (.str n :: as) (b :: bs) = (.str n = b ∧ eqvL as bs) := rfl
theorem qbk9 (x n h : Nat) (c : Option Nat) (b : AV) (as bs : List AV) : eqvL (.own x n h c :: as) (b :: bs) = (.own x n h c = b ∧ eqvL as bs) := rfl
theorem zbk9 (x n h o : Nat) (b : AV) (as bs : List AV) : eqvL (.ptr x n h o :: as) (b :: bs) = (.ptr x n h o = b ∧ eqvL as bs) := rfl
theorem waV9 (cs : List AV) (o : Nat) (b : AV) (as bs : List AV) : eqvL (.iptr cs o :: as) (b :: bs) = (.iptr cs o = b ∧ eqvL as bs) := rfl
theorem zbE9 (f : FuncId) (cs : List AV) (b : AV) (as bs : List AV) : eqvL (.fn f cs :: as) (b :: bs) = (.fn f cs = b ∧ eqvL as bs) := rfl
theorem xbE9 (x : Nat) (b : AV) (as bs : List AV) : eqvL (.mp x :: as) (b :: bs) = (.mp x = b ∧ eqvL as bs) := rfl
theorem xbk9 (x : Nat) (b : AV) (as bs : List AV) : eqvL (.yld x :: as) (b :: bs) = (.yld x = b ∧ eqvL as bs) := rfl
theorem wbk9 (x : Value) (b : AV) (as bs : List AV) : eqvL (.lit x :: as) (b :: bs) = (.lit x = b ∧ eqvL as bs) := rfl
theorem vbk9 (b : AV) (as bs : List AV) : eqvL (.err :: as) (b :: bs) = (.err = b ∧ eqvL as bs) := rfl
theorem vcT9 : eqv1 [] [] = True := rfl
theorem kbk9 (s s' : Nat) (es es' : List (List AV)) (c c' : Option Nat) (as bs : List AV) : eqv1 (.sl s es c :: as) (.sl s' es' c' :: bs) = (((es = [] ∨ s = s') ∧ es = es' ∧ c = c') ∧ eqv1 as bs) := rfl
theorem vaV9 (k : IntKind) (n : Int) (b : AV) (as bs : List AV) : eqv1 (.int k n :: as) (b :: bs) = (.int k n = b ∧ eqv1 as bs) := rfl
theorem zaK9 (n : Bool) (b : AV) (as bs : List AV) : eqv1 (.bool n :: as) (b :: bs) = (.bool n = b ∧ eqv1 as bs) := rfl
theorem kaV9 (n : List UInt8) (b : AV) (as bs : List AV) : eqv1 (.str n :: as) (b :: bs) = (.str n = b ∧ eqv1 as bs) := rfl
def Done (P : Program) (rs : List ResultVar) (d : Nat) (r : AV) : Post := fun e a' H' =>
 (e = .normal ∨ e = .ret) ∧ (ares P rs a' H').1 = true ∧ okR H' d (ares P rs a' H').2 = true ∧ (qS0 H' d (ares P rs a' H').2).eqv r
theorem zcs9 {f : FuncId} {fn : Func} {c : Code} {args : List AV} {r : AV} (d n : Nat) (rs : List ResultVar) (hf : P.funcs[f]? = some fn) (hb : fn.body = some c) (hn : fn.ntmps = n) (hrs : fn.results.toList = rs) (hl : args.length ≤ n)
  (h : ∀ a, a.length = n → zaV9 a 0 args → AWp false P G 0 c (Done P rs d r) a []) : PC P G f args r := by
 refine zY0 hf hb (xy0 (h _ ?_ (by simpa using kaj9 [] args _)) fun e a' H' ⟨h1, h2, h3, h4⟩ => ⟨h1, by rw [hrs]; exact h2, by rw [hrs]; exact (kbD9 d h3).eqv h4⟩);simp [hn]; omega
def qdj9 (P : Program) (rs : List ResultVar) (r : AV) (Hf : List Blk) : Post := fun e a' H' =>
 (e = .normal ∨ e = .ret) ∧ (ares P rs a' H').1 = true ∧ ((ares P rs a' H').2).eqv r ∧ H' = Hf
theorem qaW9 {f : FuncId} {fn : Func} {c : Code} {args : List AV} {H Hf : List Blk} {r : AV} (n : Nat) (rs : List ResultVar) (hf : P.funcs[f]? = some fn) (hb : fn.body = some c) (hn : fn.ntmps = n) (hrs : fn.results.toList = rs) (hl : args.length ≤ n)
  (h : ∀ a, a.length = n → zaV9 a 0 args → AWp false P G H.length c (qdj9 P rs r Hf) a H) : qg0 P G f args H r Hf := by
 refine zY0 hf hb (xy0 (h _ ?_ (by simpa using kaj9 [] args _)) fun e a' H' ⟨h1, h2, h3, h4⟩ => ⟨h1, by rw [hrs]; exact h2, by
  subst h4; rw [hrs]; exact Closes.eqv (fun S' u h5 h6 h7 => ⟨S', rfl, h5, Ext.refl _ _ _, h7⟩) h3⟩)
 simp [hn]; omega
theorem zdj9 (G : Glob) (a : List AV) (t : Nat) : ev G a (.tmp t) = getA a t := rfl
theorem qbR9 (k : IntKind) (n : Int) : (AV.int k n).strip = .int k n := rfl
theorem wbE9 (b : Bool) : (AV.bool b).strip = .bool b := rfl
theorem zbR9 (s : List UInt8) : (AV.str s).strip = .str s := rfl
theorem xbR9 (cs : List AV) : (AV.agg cs).strip = .agg cs := rfl
theorem wbR9 (cs : List AV) : (AV.tup cs).strip = .tup cs := rfl
theorem xcs9 (s : Nat) (es : List (List AV)) (c : Option Nat) : (AV.sl s es c).strip = .sl s es c := rfl
theorem vbR9 (b n h : Nat) (c : Option Nat) : (AV.own b n h c).strip = .own b n h c := rfl
theorem kbR9 (b i o h : Nat) : (AV.ptr b i o h).strip = .ptr b i o h := rfl
theorem vbE9 (cs : List AV) (o : Nat) : (AV.iptr cs o).strip = .iptr cs o := rfl
theorem wcs9 (f : FuncId) (cs : List AV) : (AV.fn f cs).strip = .fn f cs := rfl
theorem qbS9 (f : FuncId) (cs : List AV) : (AV.bnd f cs).strip = .bnd f cs := rfl
theorem zbS9 (b i n h : Nat) : (AV.sub b i n h).strip = .sub b i n h := rfl
theorem xdj9 (b i n h : Nat) : (AV.sub b i n h).ok = true := rfl
theorem vcs9 (b : Nat) : (AV.mp b).strip = .mp b := rfl
theorem xbS9 (b : Nat) : (AV.yld b).strip = .yld b := rfl
theorem wdj9 (b : Nat) : (AV.yld b).ok = true := rfl
theorem wbS9 (g : Bool) (v : AV) : (AV.opt g v).strip = v := rfl
theorem vbS9 (v : Value) : (AV.lit v).strip = .lit v := rfl
theorem kbS9 : AV.top.strip = .top := rfl
theorem vdj9 (k : IntKind) (n : Int) : (AV.int k n).ok = true := rfl
theorem kcT9 (b : Bool) : (AV.bool b).ok = true := rfl
theorem kdj9 (s : List UInt8) : (AV.str s).ok = true := rfl
theorem qdk9 (cs : List AV) : (AV.agg cs).ok = true := rfl
theorem zdk9 (cs : List AV) : (AV.tup cs).ok = true := rfl
theorem zdv9 (s : Nat) (es : List (List AV)) (c : Option Nat) : (AV.sl s es c).ok = true := rfl
theorem xdk9 (b n h : Nat) (c : Option Nat) : (AV.own b n h c).ok = true := rfl
theorem wdk9 (b i o h : Nat) : (AV.ptr b i o h).ok = true := rfl
theorem qcU9 (cs : List AV) (o : Nat) : (AV.iptr cs o).ok = true := rfl
theorem xdv9 (f : FuncId) (cs : List AV) : (AV.fn f cs).ok = true := rfl
theorem vdk9 (f : FuncId) (cs : List AV) : (AV.bnd f cs).ok = true := rfl
theorem wdv9 (b : Nat) : (AV.mp b).ok = true := rfl
theorem kdk9 (g : Bool) (v : AV) : (AV.opt g v).ok = g := rfl
theorem qdl9 (v : Value) : (AV.lit v).ok = true := rfl
theorem zdl9 : AV.top.ok = true := rfl
theorem kbE9 : AV.anyb.strip = .anyb := rfl
theorem zcU9 : AV.anyb.ok = true := rfl
theorem qbT9 : AV.err.strip = .err := rfl
theorem xdl9 : AV.err.ok = true := rfl
theorem qbF9 (k : IntKind) : (AV.anyi k).strip = .anyi k := rfl
theorem xcU9 (k : IntKind) : (AV.anyi k).ok = true := rfl
theorem zbT9 (k : IntKind) (n : Int) : qT0 (.int k n) = .int k n := rfl
theorem zbF9 (b : Bool) : qT0 (.bool b) = .bool b := rfl
theorem xbT9 (s : ByteArray) : qT0 (.string s) = .str s.data.toList := rfl
theorem wbT9 : qT0 (.slice none 0 0) = .sl 0 [] (some 0) := rfl
theorem kcs9 (b p q : Bool) : AV.ite b (.bool p) (.bool q) = .bool (bif b then p else q) := rfl
theorem qct9 (b w : Bool) : gOf (.bool b) w = some (b == w) := rfl
theorem wcU9 (g b w : Bool) : gOf (.opt g (.bool b)) w = some (g && (b == w)) := rfl
theorem vbT9 (w : Bool) : gOf (.tup []) w = some false := rfl
def vcU9 (G : Glob) (a : List AV) (c : Operand) (X Y : Prop) : Prop :=
 match (ev G a c).strip with
 | .bool b => (ev G a c).ok = true ∧ (b = true → X) ∧ (b = false → Y)
 | .anyb => (ev G a c).ok = true ∧ X ∧ Y
 | _ => False
theorem wdl9 {c : Operand} {x y : Code} (h : vcU9 G a c (AWp ρ P G n0 x Q a H) (AWp ρ P G n0 y Q a H)) : AWp ρ P G n0 (.cond c x y) Q a H := by
 unfold vcU9 at h;split at h
 ·rename_i b hb;exact kcq9 hb h.1 h.2.1 h.2.2
 ·rename_i hb;exact wcR9 hb h.1 h.2.1 h.2.2
 ·exact h.elim
def qe0 (m : Nat) (v : AV) : AV := if v.ids (fun b => decide (b < m)) = true then v else .top
def Blk.below (m : Nat) : Blk → Bool
 | .row _ _ es => idsE (fun b => decide (b < m)) es
 | .ob (.map _ _ es) => es.all fun p => p.1.ids (fun b => decide (b < m)) && p.2.ids (fun b => decide (b < m))
 | .ob (.loop _ as _) => idsL (fun b => decide (b < m)) as
theorem xaK9 {m : Nat} (S : St) (H : List Blk) : (S.env H).agree (fun b => decide (b < m)) (S.env (H.take m)) := ⟨fun k o q => q, fun b hb => by
  have hb' : b < m := by simpa using hb
  have hget : (H.take m)[b]? = H[b]? := by rw [List.getElem?_take, if_pos hb']
  exact ⟨by simp [St.env, shOf, hget], rfl, by simp [St.env, mpOf, hget]⟩⟩
theorem qas9 {m : Nat} {S : St} (hok : S.Ok H) (hm : n0 ≤ m) (hml : m ≤ H.length) (hb : (H.take m).all (Blk.below m) = true) : S.Ok (H.take m) ∧ Ext n0 S H S (H.take m) := by
 have hget : ∀ b, b < m → (H.take m)[b]? = H[b]? := fun b hb => by rw [List.getElem?_take, if_pos hb]
 have hnone : ∀ b, ¬ b < m → (H.take m)[b]? = none := fun b hb => by rw [List.getElem?_take, if_neg hb]
 have hag : (S.env H).agree (fun b => decide (b < m)) (S.env (H.take m)) := ⟨fun k o q => q, fun b hb => by
  have hb' : b < m := by simpa using hb
  exact ⟨by simp [St.env, shOf, hget b hb'], rfl, by simp [St.env, mpOf, hget b hb']⟩⟩
 have hat : ∀ b, b < m → S.at (H.take m) b = S.at H b := fun b hb => by simp only [St.at, hget b hb]
 have hatn : ∀ b g, S.at (H.take m) b = some g → b < m := fun b g q => by
  by_cases hb : b < m
  ·exact hb
  ·simp [St.at, hnone b hb] at q
 refine ⟨⟨hok.imm, fun b s t es hbb => ?_, fun b ob0 hbb => ?_, fun b b' g q q' => ?_⟩, ⟨rfl, rfl, rfl, Nat.le_refl _, fun _ _ _ => rfl, fun _ _ q => q, fun _ q => .inl q, fun k q => ?_, fun b s cur hb hs => ?_, fun b g hb hg => ?_, fun _ => by simp; omega⟩⟩
 ·have hlt : b < m := by
   rcases Nat.lt_or_ge b m with q|q
   ·exact q
   ·rw [hnone b (by omega)] at hbb; cases hbb
  have hbel := List.all_eq_true.1 hb _ (List.mem_of_getElem? hbb);rw [hget b hlt] at hbb;rcases hok.row b s t es hbb with q|⟨g, k, cs, h1, h2, h3, h4, h5, h6, h7⟩
  ·exact .inl q
  ·refine .inr ⟨g, k, cs, h1, h2, h3, h4, h5, h6, fun i e hi => ?_⟩;obtain ⟨l1, l2⟩ := h7 i e hi;refine ⟨l1, fun j x hj => ?_⟩;obtain ⟨v, hv, ho, hr⟩ := l2 j x hj;simp only [Blk.below] at hbel;have h8 := (qY0 e).1 ((xq0 es).1 hbel e (List.mem_of_getElem? hi)) x (List.mem_of_getElem? hj);exact ⟨v, hv, ho, Rel.move hag x v h8 hr⟩
 ·have hlt : b < m := by
   rcases Nat.lt_or_ge b m with q|q
   ·exact q
   ·rw [hnone b (by omega)] at hbb; cases hbb
  have hbel := List.all_eq_true.1 hb _ (List.mem_of_getElem? hbb);rw [hget b hlt] at hbb;obtain ⟨g, ob1, h1, h2, h3, h4⟩ := hok.ob b ob0 hbb;refine ⟨g, ob1, h1, h2, h3, ?_⟩;cases ob0 with
  | map kt vt es =>
   obtain ⟨ents, clock, e0, e1, h5⟩ := h4;refine ⟨ents, clock, e0, e1, fun i p hi => ?_⟩;obtain ⟨e, he, r1, r2⟩ := h5 i p hi;simp only [Blk.below, List.all_eq_true, Bool.and_eq_true] at hbel;have h8 := hbel p (List.mem_of_getElem? hi);exact ⟨e, he, Rel.move hag _ _ h8.1 r1, Rel.move hag _ _ h8.2 r2⟩
  | loop o as vs => exact ⟨h4.1, RelL.move hag _ _ hbel h4.2⟩
 ·have q1 := hatn b g q;have q2 := hatn b' g q';rw [hat b q1] at q; rw [hat b' q2] at q';exact hok.inj b b' g q q'
 ·obtain ⟨b, hb'⟩ := q;have := hatn b k hb';rw [hat b this] at hb';exact .inl ⟨b, hb'⟩
 ·exact ⟨cur, Nat.le_refl _, by simpa [shOf, hget b (by omega)] using hs, fun _ => rfl⟩
 ·simpa [mpOf, hget b (by omega)] using hg
theorem zas9 {m : Nat} (hm : n0 ≤ m) (hml : m ≤ H.length) (hb : (H.take m).all (Blk.below m) = true) : Weak n0 a H (a.map (qe0 m)) (H.take m) := fun S vs hok hn ha => by
 obtain ⟨h1, h2⟩ := qas9 hok hm hml hb;have hag := xaK9 (m := m) S H;refine ⟨S, rfl, h1, h2, ?_⟩
 ·refine RelL.mk (by simpa using ha.length) fun i x v hx hv => ?_;rw [List.getElem?_map] at hx;cases hy : a[i]? with
  | none => rw [hy] at hx; cases hx
  | some y =>
   rw [hy] at hx;simp only [Option.map_some, Option.some.injEq] at hx;subst hx;obtain ⟨v', hv', hr⟩ := ha.get hy;rw [hv] at hv'; injection hv' with hv'; subst hv'
   unfold qe0;split
   ·rename_i hi; exact Rel.move hag y v hi hr
   ·simp [Rel]
end
end Go.V
