import Derived.Test.YtcoakjnmnommpaaGreatDoorVS
import Derived.Test.YtcoakjnmnommpaaGreatDoorV34
import Derived.Test.YtcoakjnmnommpaaGreatDoorV31
import Derived.OpenShut
import Derived.Scope
import Derived.Lib.LastIndexByte
import Derived.Lib.SlTrimSet
import Derived.Lib.Strings
import Derived.Lib.IndexLaws
import Derived.Lib.LaidTab
import Derived.Lib.SmallJoins
set_option linter.unusedVariables false
set_option linter.unusedSimpArgs false
set_option autoImplicit false
namespace Go.V
open Go Go.RowKit
theorem vcq9 {j z k : Nat} {es : List (List AV)} {a : AV} (hk : k ≤ j) (ha : a.ids (fun b => decide (b < k)) = true) : frz j z es a = a := by
 cases a with
 | own b n h c =>
  simp only [AV.ids, decide_eq_true_eq] at ha
  have : b ≠ j := by omega
  simp [frz, this]
 | ptr b i o h =>
  simp only [AV.ids, decide_eq_true_eq] at ha
  have : b ≠ j := by omega
  simp [frz, this]
 | _ => rfl
mutual
theorem qbG9 {p q : Nat → Bool} (h : ∀ b, p b = true → q b = true) : ∀ a : AV, a.ids p = true → a.ids q = true
 | .own b _ _ _, ha => by simp only [AV.ids] at ha ⊢; exact h b ha
 | .ptr b _ _ _, ha => by simp only [AV.ids] at ha ⊢; exact h b ha
 | .mp b, ha => by simp only [AV.ids] at ha ⊢; exact h b ha
 | .yld b, ha => by simp only [AV.ids] at ha ⊢; exact h b ha
 | .agg cs, ha => by simp only [AV.ids] at ha ⊢; exact qG0 h cs ha
 | .tup cs, ha => by simp only [AV.ids] at ha ⊢; exact qG0 h cs ha
 | .sl _ es _, ha => by simp only [AV.ids] at ha ⊢; exact kbi9 h es ha
 | .iptr cs _, ha => by simp only [AV.ids] at ha ⊢; exact qG0 h cs ha
 | .fn _ cs, ha => by simp only [AV.ids] at ha ⊢; exact qG0 h cs ha
 | .opt _ v, ha => by simp only [AV.ids] at ha ⊢; exact qbG9 h v ha
 | .int _ _, _ => rfl
 | .bool _, _ => rfl
 | .str _, _ => rfl
 | .top, _ => rfl
 | .anyb, _ => rfl
 | .lit _, _ => rfl
 | .anyi _, _ => rfl
 | .err, _ => rfl
theorem qG0 {p q : Nat → Bool} (h : ∀ b, p b = true → q b = true) : ∀ as : List AV, idsL p as = true → idsL q as = true
 | [], _ => rfl
 | a :: as, ha => by
  simp only [idsL, Bool.and_eq_true] at ha ⊢
  exact ⟨qbG9 h a ha.1, qG0 h as ha.2⟩
theorem kbi9 {p q : Nat → Bool} (h : ∀ b, p b = true → q b = true) : ∀ es : List (List AV), idsE p es = true → idsE q es = true
 | [], _ => rfl
 | e :: es, ha => by
  simp only [idsE, Bool.and_eq_true] at ha ⊢
  exact ⟨qG0 h e ha.1, kbi9 h es ha.2⟩
end
theorem xbX9 {j z k : Nat} {es : List (List AV)} (hk : k ≤ j) {B : List Blk} (hr : ∀ b ∈ B, ∃ z t es, b = .row z t es) (h : B.all (Blk.below k) = true) : B.map (frzB j z es) = B := by
 rw [List.all_eq_true] at h
 have : ∀ b ∈ B, frzB j z es b = b := fun b hb => by
  obtain ⟨z', t, fs, rfl⟩ := hr b hb
  have h1 := h _ hb
  simp only [Blk.below, vC0, qO0] at h1
  rw [frzB]
  congr 1
  have : ∀ e ∈ fs, e.map (frz j z es) = e := fun e he => by
   have : ∀ a ∈ e, frz j z es a = a := fun a ha => vcq9 hk (h1 e he a ha)
   exact (List.map_congr_left this).trans (List.map_id' e)
  exact (List.map_congr_left this).trans (List.map_id' fs)
 exact (List.map_congr_left this).trans (List.map_id' B)
section
variable {n N z z2 I : Nat} {t t2 : TypeId} {c : Option Nat} {B : List Blk}
end
end Go.V
set_option linter.unusedVariables false
set_option linter.unusedSimpArgs false
set_option autoImplicit false
namespace Go.V
open Go Go.RowKit Go.ChangeShapes Go.WideShapes Go.ChangeAt
def View.array2 {P : Program} {t e : TypeId} {α : Type} (c : Nat) (hu : P.underlying t = some (.array 2 e)) (hc : P.cellsOf e = c) (ht : P.cellsOf t = c + c) (v : View P e α) : View P t (α × α) where
 to y := v.to y.1 ++ v.to y.2
 ok y := v.ok y.1 ∧ v.ok y.2
 get {H enc w fuel cs x} h := by
  obtain ⟨xs, m, rfl, _, h1, h2, h3⟩ := DataW.trod_array hu h
  have a0 := h3 0 (by omega)
  have a1 := h3 1 (by omega)
  rw [hc, List.getElem?_eq_getElem (by omega)] at a0 a1
  rw [Nat.zero_mul, List.drop_zero] at a0
  rw [Nat.one_mul, List.take_of_length_le (by rw [List.length_drop]; omega)] at a1
  obtain ⟨y1, q1, q2, q3⟩ := v.get a0
  obtain ⟨y2, p1, p2, p3⟩ := v.get a1
  have e : cs = cs.take c ++ cs.drop c := (List.take_append_drop c cs).symm
  refine ⟨(y1, y2), ⟨q1, p1⟩, ?_, ?_⟩
  ·rw [e]; exact q2.append p2
  ·rw [e]; intro u hu
   rcases List.mem_append.1 hu with q|q
   ·exact q3 u q
   ·exact p3 u q
end Go.V
set_option linter.unusedVariables false
set_option linter.unusedSimpArgs false
set_option autoImplicit false
namespace Go.V
open Go Go.RowKit
def updF {α : Type} (f : Nat → α) (q : Nat) (v : α) : Nat → α := fun s => if s = q then v else f s
def zj0 (f : Nat → AV) (N : Nat) : List (List AV) := (List.range N).map fun s => [f s]
theorem kI0 (f : Nat → AV) (N : Nat) : (zj0 f N).length = N := by simp [zj0]
theorem vV0 {f : Nat → AV} {N k : Nat} (h : k < N) : (zj0 f N).getD k [] = [f k] := by simp [zj0, h]
theorem zG0 {f : Nat → AV} {N q : Nat} (v : AV) : (zj0 f N).set q [v] = zj0 (updF f q v) N := by
 refine List.ext_getElem (by simp [zj0]) fun k h1 h2 => ?_
 rw [List.getElem_set]
 simp only [zj0, List.getElem_map, List.getElem_range, updF]
 by_cases h : q = k
 ·subst h; simp
 ·rw [if_neg h, if_neg (fun e => h e.symm)]
theorem xe0 {f g : Nat → AV} {N : Nat} (h : ∀ s, s < N → f s = g s) : zj0 f N = zj0 g N := List.map_congr_left fun s hs => by rw [h s (List.mem_range.1 hs)]
theorem wx0 (v : AV) (N : Nat) : List.replicate N [v] = zj0 (fun _ => v) N := by
 refine List.ext_getElem (by simp [zj0]) fun k h1 h2 => ?_
 simp [zj0]
theorem wbX9 {f : Nat → AV} {N : Nat} {p : Nat → Bool} (h : ∀ s, s < N → (f s).ids p = true) : idsE p (zj0 f N) = true := by
 rw [vC0]
 intro e he
 obtain ⟨s, hs, rfl⟩ := List.mem_map.1 he
 simp [idsL, h s (List.mem_range.1 hs)]
def wd0 (z : Nat) (t : TypeId) (g : Nat → List (List AV)) (N : Nat) : List Blk := (List.range N).map fun s => .row z t (g s)
section
variable {z N q : Nat} {t : TypeId} {g : Nat → List (List AV)}
theorem rf_len (z : Nat) (t : TypeId) (g : Nat → List (List AV)) (N : Nat) : (wd0 z t g N).length = N := by simp [wd0]
theorem zbw9 (z : Nat) (t : TypeId) (g : Nat → List (List AV)) : wd0 z t g 0 = [] := rfl
theorem qdM9 (h : q < N) : (wd0 z t g N)[q]? = some (.row z t (g q)) := by simp [wd0, h]
theorem vdg9 (es : List (List AV)) : (wd0 z t g N).set q (.row z t es) = wd0 z t (updF g q es) N := by
 refine List.ext_getElem (by simp [wd0]) fun k h1 h2 => ?_
 rw [List.getElem_set]
 simp only [wd0, List.getElem_map, List.getElem_range, updF]
 by_cases h : q = k
 ·subst h; simp
 ·rw [if_neg h, if_neg (fun e => h e.symm)]
theorem xbw9 (z : Nat) (t : TypeId) (g : Nat → List (List AV)) (N : Nat) : wd0 z t g N ++ [.row z t (g N)] = wd0 z t g (N + 1) := by simp [wd0, List.range_succ]
theorem kr0 {g' : Nat → List (List AV)} (h : ∀ s, s < N → g s = g' s) : wd0 z t g N = wd0 z t g' N := List.map_congr_left fun s hs => by rw [h s (List.mem_range.1 hs)]
theorem qaz9 (K : List Blk) (hq : q < N) : (wd0 z t g N ++ K)[q]? = some (.row z t (g q)) := by
 rw [List.getElem?_append_left (by rw [rf_len]; omega)]; exact qdM9 hq
theorem zdM9 (K : List Blk) (j : Nat) : (wd0 z t g N ++ K)[N + j]? = K[j]? := by
 rw [List.getElem?_append_right (by rw [rf_len]; omega), rf_len, Nat.add_sub_cancel_left]
theorem qbj9 (K : List Blk) : (wd0 z t g N ++ K)[N]? = K[0]? := zdM9 K 0
theorem zaX9 (es : List (List AV)) (K : List Blk) (hq : q < N) : (wd0 z t g N ++ K).set q (.row z t es) = wd0 z t (updF g q es) N ++ K := by
 rw [List.set_append_left _ _ (by rw [rf_len]; omega), vdg9]
theorem xcT9 {m : Nat} (h : ∀ s, s < N → idsE (fun b => decide (b < m)) (g s) = true) : (wd0 z t g N).all (Blk.below m) = true := by
 rw [wd0, List.all_map, List.all_eq_true]
 exact fun s hs => h s (List.mem_range.1 hs)
end
theorem zbj9 {H : List Blk} {b0 N z : Nat} {t : TypeId} {f : Nat → AV} {g : Nat → List (List AV)} {c : Nat → Option Nat} (hf : ∀ s, s < N → f s = .own (s + b0) (g s).length (g s).length (c s)) (hH : ∀ s, s < N → H[s + b0]? = some (.row z t (g s))) :
  ((zj0 f N).map fun e => e.map (qi0 H 1)) = zj0 (fun s => .sl z (g s) (c s)) N := by
 rw [zj0, List.map_map]
 refine List.map_congr_left fun s hs => ?_
 have hs := List.mem_range.1 hs
 have : ∀ es : List (List AV), es.map (fun e => e.map (qi0 H 0)) = es := fun es => by
  have h0 : qi0 H 0 = id := by funext v; simp [qi0]
  simp [h0]
 simp only [Function.comp, List.map_cons, List.map_nil, hf s hs, qi0, hH s hs]
 rw [List.take_of_length_le (Nat.le_refl _)]
 have h1 := this (g s)
 simp only [qi0] at h1
 rw [h1]
theorem kcq9 {H : List Blk} {b0 N z : Nat} {t : TypeId} {f : Nat → AV} {g : Nat → List (List AV)} {c : Nat → Option Nat} (hf : ∀ s, s < N → f s = .own (s + b0) (g s).length (g s).length (c s)) (hH : ∀ s, s < N → H[s + b0]? = some (.row z t (g s))) (hc : ∀ s, s < N → idsE van9 (g s) = true) :
  ((zj0 f N).all fun e => e.all (okC H 1)) = true := by
 rw [zj0, List.all_map, List.all_eq_true]
 intro s hs
 have hs := List.mem_range.1 hs
 simp only [Function.comp, List.all_cons, List.all_nil, Bool.and_true, hf s hs, okC, kj0, shOf, hH s hs, beq_self_eq_true, Bool.true_and]
 rw [List.all_eq_true]
 intro e he
 have hm : e ∈ g s := List.mem_of_mem_take he
 rw [List.all_eq_true]
 intro x hx
 exact (qO0 e).1 ((vC0 _).1 (hc s hs) e hm) x hx
end Go.V
set_option linter.unusedVariables false
set_option linter.unusedSimpArgs false
set_option autoImplicit false
namespace Go.V
open Go Go.RowKit
section
variable {P : Program} {G : Glob} {q : Operand → Bool}
variable {ops : List Oper} {md : Region.Mode} {rs : List (Nat × Nat)} {K : List AV → List Blk → Prop}
def kdg9 (P : Program) (G : Glob) (q : Operand → Bool) (ops : List Oper) (rs : List (Nat × Nat)) (o : Oper) (a : List AV) (H : List Blk) (r : AV) (H' : List Blk) : Prop :=
 wbd9 P G q ops o a H r H' ∧ (xao9 rs o = true → ∀ H2, kn0 P G ops o a H2 r H2)
def xdV9 (P : Program) (G : Glob) (q : Operand → Bool) (ops : List Oper) (rs : List (Nat × Nat)) (md : Region.Mode) (K : List AV → List Blk → Prop) : Nat → Array Bool → List AV → List Blk → Prop
 | 0, listed, a, H => Region.ready md ops.toArray listed = [] ∧ K a H
 | fuel + 1, listed, a, H => (Region.ready md ops.toArray listed = [] → K a H) ∧
   ∀ i ∈ Region.ready md ops.toArray listed, ∃ o, ops[i]? = some o ∧ ∃ r H', kdg9 P G q ops rs o a H r H' ∧ xdV9 P G q ops rs md K fuel (listed.setIfInBounds i true) (putA a o.dst r) H'
def lexI (q : Operand → Bool) (rs : List (Nat × Nat)) (md : Region.Mode) (ops : Array Oper) (T : Nat) : Nat → Nat → Array Bool → Bool
 | 0, _, listed => (Region.ready md ops listed).isEmpty
 | n + 1, k, listed => decide (k < 256) && (Region.ready md ops listed).contains k &&
   ((List.range ops.size).all fun j => j == k || listed.getD j true || T.testBit (j * 256 + k) ||
    (match ops[k]?, ops[j]? with|some ok, some oj => (xbs9 q ok.op oj.op || (xao9 rs ok || xao9 rs oj)) && ok.apart ops oj|_, _ => false)) &&
   lexI q rs md ops T n (k + 1) (listed.setIfInBounds k true)
def wcT9 (q : Operand → Bool) (rs : List (Nat × Nat)) (ops : List Oper) : Bool :=
 match ancT .any ops 0 0 with
 | 0 => lexI q rs .any ops.toArray 0 ops.length 0 (Array.replicate ops.length false)
 | n + 1 => lexI q rs .any ops.toArray (n + 1) ops.length 0 (Array.replicate ops.length false)
def xdM9 (P : Program) (G : Glob) (q : Operand → Bool) (ops : List Oper) (rs : List (Nat × Nat)) (K : List AV → List Blk → Prop) : List Oper → List AV → List Blk → Prop
 | [], a, H => K a H
 | o :: rest, a, H => ∃ r H', kdg9 P G q ops rs o a H r H' ∧ xdM9 P G q ops rs K rest (putA a o.dst r) H'
def immC (rs : List (Nat × Nat)) (a : List AV) : Prop := ∀ x ∈ rs, topB (getA a x.2).strip = none
end
section
variable {P : Program} {G : Glob} {ρ : Bool} {n0 : Nat} {Q : Post} {a : List AV} {H : List Blk}
end
def immB : List (Nat × Nat) → (Nat → AV) → Bool
 | [], _ => true
 | (_, x) :: rs, s => (topB (s x).strip).isNone && immB rs s
def immQ (rs : List (Nat × Nat)) (Q : wm0) : wm0 := fun e s H => Q e s H ∧ immB rs s = true
section
variable {ρ : Bool} {P : Program} {G : Glob} {n0 n : Nat} {body : Code} {p : List Nat} {Q : wm0} {B : Prop} {s : Nat → AV} {H : List Blk} {dr : Operand → Bool}
def wdV9 (dr : Operand → Bool) (rs : List (Nat × Nat)) (ops : List Oper) : Bool := wcT9 dr rs ops && waL9 rs [] ops
theorem vdu9 {rs : List (Nat × Nat)} (h : Out Q .normal (B ∧ immB rs s = true) s H) : Out (immQ rs Q) .normal B s H := ⟨h.1.1, h.2, h.1.2⟩
end
attribute [push_cast] immB
end Go.V
namespace Go.V
abbrev oh_ := @vdu9
end Go.V
set_option linter.unusedVariables false
set_option linter.unusedSimpArgs false
set_option autoImplicit false
namespace Go.V
open Go Go.RowKit
theorem close_own {H : List Blk} {b n h z : Nat} {t : TypeId} {es : List (List AV)} {c : Option Nat} (hb : H[b]? = some (.row z t es)) (hn : n = es.length) (hh : h = es.length) (hi : idsE van9 es = true) : zdg9 H 1 (.own b n h c) = .sl z es c := by
 subst hn; subst hh
 unfold zdg9
 rw [if_pos (by
  simp only [okA, okC, kj0, shOf, hb, List.take_length]
  simp
  exact fun x hx y hy => (qO0 x).1 ((vC0 es).1 hi x hx) y hy)]
 simp [wv0, qi0, hb]
theorem qcr9 {H : List Blk} {b n h z : Nat} {t : TypeId} {es : List (List AV)} {c : Option Nat} (hb : H[b]? = some (.row z t es)) (hn : n = es.length) (hh : h = es.length) (hi : idsE van9 es = true) : okA H 1 (.own b n h c) = true := by
 subst hn; subst hh
 simp only [okA, okC, kj0, shOf, hb, List.take_length]
 simp
 exact fun x hx y hy => (qO0 x).1 ((vC0 es).1 hi x hx) y hy
theorem zaz9 {H : List Blk} {b n h z : Nat} {t : TypeId} {es : List (List AV)} {c : Option Nat} (hb : H[b]? = some (.row z t es)) (hn : n = es.length) (hh : h = es.length) : wv0 H 1 (.own b n h c) = .sl z es c := by
 subst hn; subst hh
 simp [wv0, qi0, hb]
end Go.V
set_option linter.unusedVariables false
set_option linter.unusedSimpArgs false
set_option autoImplicit false
namespace Go.V
open Go Go.RowKit
section
variable {P : Program} {b : Frame} {a : Act} {k : List Item} {cs : List Frame} {w : World}
theorem qu0 {c : Code} : step P (lone (b.atR a (.code (.scope c) :: k)) cs w) = .next (lone (b.atR a (.code c :: .inScope c :: k)) cs w) :=
 step_lone_go (by simp [stepG, stepG.exec, Frame.atR])
theorem xaX9 {c : Code} : step P (lone (b.atR a (.inScope c :: k)) cs w) = .next (lone (b.atR a k) cs w) :=
 step_lone_go (by simp [stepG, stepG.exec, Frame.atR])
end
theorem vbX9 {F : Fence} {n : Nat} {P : Program} {Q : Exit → Act → World → Prop} {a : Act} {w : World} {c : Code} (h : c.wpIn F n P (Exit.noGoto Q) a w) : (Code.scope c).wpIn F n P Q a w := by
 intro b k cs hro hb hr
 have h0 : (lone (b.atR a (.code (.scope c) :: k)) cs w).fenced P F := fenced_calm hb hr rfl
 obtain ⟨e, a₁, w₁, hq, harr⟩ := h b (.inScope c :: k) cs hro hb hr
 cases e with
 | normal => exact ⟨.normal, a₁, w₁, hq, .head h0 qu0 (StepsIn.trans harr (.one (fenced_calm hb hr rfl) xaX9))⟩
 | exit id =>
  have hx : exitTo id (.inScope c :: k) = exitTo id k := by simp [exitTo]
  exact ⟨_, a₁, w₁, hq, fun k' hk => .head h0 qu0 (harr.1 k' (by rw [hx]; exact hk)),
   fun hr' hk => let ⟨k₁, h1, h2⟩ := harr.2 hr' (by rw [hx]; exact hk); ⟨k₁, h1, .head h0 qu0 h2⟩⟩
 | goto l => exact hq.elim
 | ret => exact ⟨_, a₁, w₁, hq, .of_steps (.one h0 qu0) harr⟩
 | panic ch => exact ⟨_, a₁, w₁, hq, .of_steps (.one h0 qu0) harr⟩
 | outgrown => exact ⟨_, a₁, w₁, hq, .of_steps (.one h0 qu0) harr⟩
def wbw9 (Q : Post) : Post
 | .goto _, _, _ => False
 | e, a, H => Q e a H
def wah9 (Q : wm0) : wm0
 | .goto _, _, _ => False
 | e, s, H => Q e s H
section
variable {ρ : Bool} {P : Program} {G : Glob} {n0 n : Nat} {H : List Blk}
theorem zcr9 {Q : Post} {a : List AV} {c : Code} (h : AWp ρ P G n0 c (wbw9 Q) a H) : AWp ρ P G n0 (.scope c) Q a H := fun ro S act hr h1 h2 h3 h4 =>
 vbX9 (wpIn_mono (h ro S act hr h1 h2 h3 h4) fun e act' w' he => by
  cases e with
  | goto l =>
   obtain ⟨a', H', S', _, q, _⟩ := he
   exact q.elim
  | _ => exact he)
variable {body : Code} {p : List Nat} {Q : wm0} {B : Prop} {s : Nat → AV}
theorem xbj9 (n : Nat) (Q : wm0) : vU0 n (wah9 Q) = wbw9 (vU0 n Q) := by
 funext e a H
 cases e with
 | goto l => simp [vU0, wah9, wbw9]
 | _ => rfl
def kdu9 : Code → Bool
 | .scope _ => true
 | _ => false
def qdv9 : Code → Bool
 | .label _ => true
 | _ => false
theorem zbG9 (hs : kdu9 (atR body p) = true) (h : Go ρ P G n0 n body (0 :: p) (wah9 Q) B s H) : Go ρ P G n0 n body p Q B s H := by
 refine ⟨h.1, ?_⟩
 have h2 := h.2
 unfold At at h2 ⊢
 simp only [atR] at h2
 rw [xbj9] at h2
 generalize atR body p = c at *
 cases c with
 | scope c => exact zcr9 h2
 | _ => cases hs
theorem xbG9 (hs : qdv9 (atR body p) = true) (h : Out Q .normal B s H) : Go ρ P G n0 n body p Q B s H := by
 refine ⟨h.1, ?_⟩
 unfold At
 generalize atR body p = c at *
 cases c with
 | label l => exact vbd9 ⟨_, rfl, h.2⟩
 | _ => cases hs
theorem wbj9 (h : Out Q .normal B s H) : Out (wah9 Q) .normal B s H := ⟨h.1, h.2⟩
theorem xaa9 (h : Out Q .ret B s H) : Out (wah9 Q) .ret B s H := ⟨h.1, h.2⟩
theorem zT0 {id : Nat} (h : Out Q (.exit id) B s H) : Out (wah9 Q) (.exit id) B s H := ⟨h.1, h.2⟩
end
abbrev ga_ := @zbG9
abbrev gb_ := @xbG9
abbrev oi_ := @wbj9
abbrev oj_ := @xaa9
abbrev ok_ := @zT0
end Go.V
set_option linter.unusedVariables false
set_option linter.unusedSimpArgs false
set_option autoImplicit false
namespace Go.V
open Go Go.RowKit
end Go.V
set_option linter.unusedVariables false
set_option linter.unusedSimpArgs false
namespace Go.V
open Go Go.RowKit
section
variable {P : Program} {G : Glob}
end
end Go.V
set_option linter.unusedVariables false
set_option linter.unusedSimpArgs false
namespace Go.V
open Go Go.RowKit Go.Lib
def vdV9 {H : Type} (zs : List (List UInt8)) : DataW H := .agg (zs.map fun z => .lit (.string z))
end Go.V
set_option linter.unusedVariables false
set_option linter.unusedSimpArgs false
namespace Go.V
open Go Go.RowKit
def qs0 (bs : List UInt8) : List (List AV) := bs.map fun b => [.int .u8 ((b.toNat : Nat) : Int)]
theorem qJ0 : ∀ bs : List UInt8, wak9 (qs0 bs) = some bs
 | [] => rfl
 | b :: r => by
  show (wak9 (qs0 r)).map (UInt8.ofNat ((b.toNat : Nat) : Int).toNat :: ·) = _
  rw [qJ0 r, Int.toNat_natCast, UInt8.ofNat_toNat]; rfl
theorem waa9 (bs : List UInt8) : (qs0 bs).length = bs.length := by simp [qs0]
theorem xaz9 (p : Nat → Bool) (bs : List UInt8) : idsE p (qs0 bs) = true := zr0 _ _ fun x => by simp [idsL, AV.ids]
theorem vbw9 (bs : List UInt8) (b : UInt8) : qs0 bs ++ [[.int .u8 ((b.toNat : Nat) : Int)]] = qs0 (bs ++ [b]) := by simp [qs0]
attribute [simp] xaz9
attribute [push_cast] qJ0 waa9 xaz9
end Go.V
set_option linter.unusedVariables false
set_option linter.unusedSimpArgs false
namespace Go.V
open Go Go.RowKit
def St.glue (S S' : St) (n : Nat) : St := { S' with μ := fun b => if b < n then S'.μ b else S.μ b, ν := fun b => if b < n then S'.ν b else S.ν b }
section
variable {P : Program} {G : Glob}
theorem kbX9 {S S' : St} {H H' E : List Blk} (hok : S.Ok (H ++ E)) (hok' : S'.Ok H') (hext : Ext H.length S H S' H') (hl : H'.length = H.length) :
  (S.glue S' H.length).Ok (H' ++ E) ∧ Ext (H ++ E).length S (H ++ E) (S.glue S' H.length) (H' ++ E) ∧ (S'.env H').le ((S.glue S' H.length).env (H' ++ E)) := by
 generalize hn : H.length = n at *
 have g1 : ∀ b, b < n → (H' ++ E)[b]? = H'[b]? := fun b hb => List.getElem?_append_left (by omega)
 have g1' : ∀ b, b < n → (H ++ E)[b]? = H[b]? := fun b hb => List.getElem?_append_left (by omega)
 have g2 : ∀ b, ¬ b < n → (H' ++ E)[b]? = (H ++ E)[b]? := fun b hb => by rw [List.getElem?_append_right (by omega), List.getElem?_append_right (by omega), hl, hn]
 have m1 : ∀ b, b < n → (S.glue S' n).μ b = S'.μ b := fun b hb => if_pos hb
 have m2 : ∀ b, ¬ b < n → (S.glue S' n).μ b = S.μ b := fun b hb => if_neg hb
 have v1 : ∀ b, b < n → (S.glue S' n).ν b = S'.ν b := fun b hb => if_pos hb
 have v2 : ∀ b, ¬ b < n → (S.glue S' n).ν b = S.ν b := fun b hb => if_neg hb
 have a1 : ∀ b, b < n → (S.glue S' n).at (H' ++ E) b = S'.at H' b := fun b hb => by simp only [St.at, g1 b hb, m1 b hb, v1 b hb]
 have a1' : ∀ b, b < n → S.at (H ++ E) b = S.at H b := fun b hb => by simp only [St.at, g1' b hb]
 have a2 : ∀ b, ¬ b < n → (S.glue S' n).at (H' ++ E) b = S.at (H ++ E) b := fun b hb => by simp only [St.at, g2 b hb, m2 b hb, v2 b hb]
 have alt : ∀ b g, S.at H b = some g → b < n := fun b g q => by
  by_cases hb : b < n
  ·exact hb
  ·rw [St.at, List.getElem?_eq_none (by omega)] at q; cases q
 have ownH : ∀ k, S.Owns H k → S.Owns (H ++ E) k := fun k ⟨b, hb⟩ => ⟨b, by rw [a1' b (alt b k hb)]; exact hb⟩
 have sh1 : ∀ b, b < n → shOf (H' ++ E) b = shOf H' b := fun b hb => by simp only [shOf, g1 b hb]
 have sh1' : ∀ b, b < n → shOf (H ++ E) b = shOf H b := fun b hb => by simp only [shOf, g1' b hb]
 have sh2 : ∀ b, ¬ b < n → shOf (H' ++ E) b = shOf (H ++ E) b := fun b hb => by simp only [shOf, g2 b hb]
 have mp1 : ∀ b, b < n → mpOf (S.glue S' n).ν (H' ++ E) b = mpOf S'.ν H' b := fun b hb => by simp only [mpOf, g1 b hb, v1 b hb]
 have mp1' : ∀ b, b < n → mpOf S.ν (H ++ E) b = mpOf S.ν H b := fun b hb => by simp only [mpOf, g1' b hb]
 have mp2 : ∀ b, ¬ b < n → mpOf (S.glue S' n).ν (H' ++ E) b = mpOf S.ν (H ++ E) b := fun b hb => by simp only [mpOf, g2 b hb, v2 b hb]
 have hsh : ∀ b s cur, shOf (H ++ E) b = some (s, cur) → ∃ cur', cur ≤ cur' ∧ shOf (H' ++ E) b = some (s, cur') ∧ (cur' = cur → (S.glue S' n).μ b = S.μ b) := fun b s cur hs => by
  by_cases hb : b < n
  ·rw [sh1' b hb] at hs
   obtain ⟨c, q1, q2, q3⟩ := hext.sh b s cur hb hs
   exact ⟨c, q1, by rw [sh1 b hb]; exact q2, fun q => by rw [m1 b hb]; exact q3 q⟩
  ·exact ⟨cur, Nat.le_refl _, by rw [sh2 b hb]; exact hs, fun _ => m2 b hb⟩
 have hmp : ∀ b g, mpOf S.ν (H ++ E) b = some g → mpOf (S.glue S' n).ν (H' ++ E) b = some g := fun b g hs => by
  by_cases hb : b < n
  ·rw [mp1' b hb] at hs
   rw [mp1 b hb]; exact hext.ν b g hb hs
  ·rw [mp2 b hb]; exact hs
 have le1 : (S.env (H ++ E)).le ((S.glue S' n).env (H' ++ E)) := ⟨hext.M, hsh, hmp⟩
 have le2 : (S'.env H').le ((S.glue S' n).env (H' ++ E)) := ⟨fun _ _ q => q, fun b s cur hs => by
   have hb : b < n := by have := qaS9 hs; omega
   exact ⟨cur, Nat.le_refl _, (sh1 b hb).trans hs, fun _ => m1 b hb⟩, fun b g hs => by
   have hb : b < n := by have := zaS9 hs; omega
   exact (mp1 b hb).trans hs⟩
 have hfree : ∀ b g, ¬ b < n → S.at (H ++ E) b = some g → ¬ S.Owns H g := fun b g hb hg ⟨b', hb'⟩ => by
  have q := alt b' g hb'
  have := hok.inj b b' g hg (by rw [a1' b' q]; exact hb')
  omega
 have hkeep : ∀ b g o, ¬ b < n → S.at (H ++ E) b = some g → S.M g = none → S.w.heap[g]? = some o → S'.M g = none ∧ S'.w.heap[g]? = some o := fun b g o hb hg hM ho => by
  have hlt : g < S.w.heap.size := (Array.getElem?_eq_some_iff.1 ho).1
  have hno := hfree b g hb hg
  refine ⟨?_, (hext.keep g hlt hno).trans ho⟩
  cases hM' : S'.M g with
  | none => rfl
  | some o' =>
   rcases hext.dom g (by rw [hM']; simp) with q|q|q
   ·exact absurd hM q
   ·exact absurd q hno
   ·omega
 refine ⟨⟨hok'.imm, fun b s t es hbb => ?_, fun b x hbb => ?_, fun b b' g q q' => ?_⟩, ⟨hext.os, hext.tape, hext.output, hext.size, fun k hk hno => hext.keep k hk fun q => hno (ownH k q), hext.M, fun k hk => ?_, fun k hk => ?_, fun b s cur _ hs => hsh b s cur hs, fun b g _ hs => hmp b g hs, fun _ => by simp [hl, hn]⟩, le2⟩
 ·by_cases hb : b < n
  ·rw [g1 b hb] at hbb
   rcases hok'.row b s t es hbb with q|⟨g, k, cs, h1, h2, h3, h4, h5, h6, h7⟩
   ·exact .inl ⟨by rw [m1 b hb]; exact q.1, q.2⟩
   ·exact .inr ⟨g, k, cs, by rw [m1 b hb]; exact h1, h2, h3, h4, h5, h6, h7.mono le2⟩
  ·rw [g2 b hb] at hbb
   rcases hok.row b s t es hbb with q|⟨g, k, cs, h1, h2, h3, h4, h5, h6, h7⟩
   ·exact .inl ⟨by rw [m2 b hb]; exact q.1, q.2⟩
   ·have hat : S.at (H ++ E) b = some g := by simp [St.at, hbb, h1]
    obtain ⟨k1, k2⟩ := hkeep b g _ hb hat h2 h3
    exact .inr ⟨g, k, cs, by rw [m2 b hb]; exact h1, k1, k2, h4, h5, h6, h7.mono le1⟩
 ·by_cases hb : b < n
  ·rw [g1 b hb] at hbb
   obtain ⟨g, o, h1, h2, h3, h4⟩ := hok'.ob b x hbb
   exact ⟨g, o, by rw [v1 b hb]; exact h1, h2, h3, h4.mono le2⟩
  ·rw [g2 b hb] at hbb
   obtain ⟨g, o, h1, h2, h3, h4⟩ := hok.ob b x hbb
   have hat : S.at (H ++ E) b = some g := by simp [St.at, hbb, h1]
   obtain ⟨k1, k2⟩ := hkeep b g _ hb hat h2 h3
   exact ⟨g, o, by rw [v2 b hb]; exact h1, k1, k2, h4.mono le1⟩
 ·by_cases hb : b < n
  ·by_cases hb' : b' < n
   ·rw [a1 b hb] at q; rw [a1 b' hb'] at q'
    exact hok'.inj b b' g q q'
   ·rw [a1 b hb] at q; rw [a2 b' hb'] at q'
    exfalso
    rcases hext.own g ⟨b, q⟩ with w|w
    ·exact hfree b' g hb' q' w
    ·have : g < S.w.heap.size := by
      unfold St.at at q'
      split at q'
      ·rename_i s t es he
       rcases hok.row b' s t es he with z|⟨g', k, cs, h1, h2, h3, _⟩
       ·rw [z.1] at q'; cases q'
       ·rw [h1] at q'; injection q' with q'; subst q'
        exact (Array.getElem?_eq_some_iff.1 h3).1
      ·rename_i x he
       obtain ⟨g', o, h1, h2, h3, _⟩ := hok.ob b' x he
       rw [h1] at q'; injection q' with q'; subst q'
       exact (Array.getElem?_eq_some_iff.1 h3).1
      ·cases q'
     omega
  ·by_cases hb' : b' < n
   ·rw [a2 b hb] at q; rw [a1 b' hb'] at q'
    exfalso
    rcases hext.own g ⟨b', q'⟩ with w|w
    ·exact hfree b g hb q w
    ·have : g < S.w.heap.size := by
      unfold St.at at q
      split at q
      ·rename_i s t es he
       rcases hok.row b s t es he with z|⟨g', k, cs, h1, h2, h3, _⟩
       ·rw [z.1] at q; cases q
       ·rw [h1] at q; injection q with q; subst q
        exact (Array.getElem?_eq_some_iff.1 h3).1
      ·rename_i x he
       obtain ⟨g', o, h1, h2, h3, _⟩ := hok.ob b x he
       rw [h1] at q; injection q with q; subst q
       exact (Array.getElem?_eq_some_iff.1 h3).1
      ·cases q
     omega
   ·rw [a2 b hb] at q; rw [a2 b' hb'] at q'
    exact hok.inj b b' g q q'
 ·rcases hext.dom k hk with q|q|q
  ·exact .inl q
  ·exact .inr (.inl (ownH k q))
  ·exact .inr (.inr q)
 ·obtain ⟨b, hb'⟩ := hk
  by_cases hb : b < n
  ·rw [a1 b hb] at hb'
   rcases hext.own k ⟨b, hb'⟩ with q|q
   ·exact .inl (ownH k q)
   ·exact .inr q
  ·rw [a2 b hb] at hb'
   exact .inl ⟨b, hb'⟩
theorem waz9 (H E : List Blk) : (H ++ E).take H.length = H := by simp
theorem wbG9 {f : FuncId} {args : List AV} {H H' : List Blk} {r : AV} (h : qe0 P G f args H r H') (E : List Blk) (hl : H'.length = H.length) (hids : idsL (fun b => decide (b < H.length)) args = true) (hb : H.all (Blk.below H.length) = true) : qe0 P G f args (H ++ E) r (H' ++ E) := by
 intro S vals hok hG ha
 have hle : H.length ≤ (H ++ E).length := by simp
 obtain ⟨hokH, _⟩ := waw9 (n0 := H.length) hok (Nat.le_refl _) hle (by rw [waz9]; exact hb)
 rw [waz9] at hokH
 have hag := vaU9 (m := H.length) S (H ++ E)
 rw [waz9] at hag
 have ha' := RelL.move hag _ _ hids ha
 refine (h S vals hokH hG ha').mono fun e w' ⟨v, S', he, hw, hok', hext, hr⟩ => ?_
 obtain ⟨q1, q2, q3⟩ := kbX9 hok hok' hext hl
 exact ⟨v, S.glue S' H.length, he, hw, q1, q2, Rel.mono q3 _ _ hr⟩
end
end Go.V
set_option linter.unusedVariables false
set_option linter.unusedSimpArgs false
namespace Go.V
open Go Go.RowKit
end Go.V
set_option linter.unusedVariables false
set_option linter.unusedSimpArgs false
namespace Go.V
open Go Go.RowKit Go.Lib
abbrev Kd := List UInt8 × Bool × Bool × Bool
def weh9 {H : Type} (zs : List Kd) : DataW H := .agg (zs.map fun z => .agg [.lit (.string z.1), .lit (.bool z.2.1), .lit (.bool z.2.2.1), .lit (.bool z.2.2.2)])
def kdV9 (z : Kd) : List Value := [.string ⟨z.1.toArray⟩, .bool z.2.1, .bool z.2.2.1, .bool z.2.2.2]
section
variable {H : Type} {enc : TypeId × Value → H} {P : Program} {w : World} {base : Nat} {sp : Nat → Bool} {held : Bool}
end
end Go.V
set_option linter.unusedVariables false
set_option autoImplicit false
namespace Go.V
open Go Go.RowKit
def pcQ : Operand → Bool
 | .global 5 => false
 | _ => true
def xcr9 (P : Program) (G : Glob) (f : AV) (args : List AV) (K : AV → Prop) : Prop :=
 match f.strip with
 | .fn g cap => f.ok = true ∧ wb0 P g = true ∧ (args.all AV.ok) = true ∧ ∃ r, (idsL van9 (args.map AV.strip ++ cap) = true ∧ PC P G g (args.map AV.strip ++ cap) r) ∧ K r
 | _ => False
section
variable {ρ : Bool} {P : Program} {G : Glob} {n0 n : Nat} {dr : Operand → Bool} {body : Code} {p : List Nat} {Q : wm0} {k : Nat} {B : Prop} {s : Nat → AV} {H : List Blk} {d : Option Tmp} {ty : TypeId} {pos : String} {af : Array Edge}
theorem wcr9 {f : Operand} {args : Array Operand} {ts : Array TypeId} (h : (kk0 (atR body p))[k]? = some ⟨d, .call ⟨.value f, args, ts⟩, ty, pos, af, none⟩) (hpc : pcF dr = true) (hkp : kpF dr = false) (hdr : dr f = true)
  (hk : B ∧ xcr9 P G (evS G n s f) (args.toList.map (evS G n s)) (fun r => Acc ρ P G n0 n dr body p Q (k + 1) True (put s d r) H)) : Acc ρ P G n0 n dr body p Q k B s H := by
 refine ⟨hk.1, ?_⟩
 have h2 := hk.2
 rw [wE0 h]
 show wan9 P G (dr f) (ev G (Lst n s) f) (args.toList.map (ev G (Lst n s))) H _
 unfold xcr9 at h2
 split at h2
 ·rename_i g cap hf
  obtain ⟨q1, q2, q3, r, ⟨q4, q5⟩, q6⟩ := h2
  have hops : ∀ H2, xx0 P G (.call ⟨.value f, args, ts⟩) (ev G (Lst n s)) H2 r H2 := fun H2 =>
   .call _ f g cap rfl rfl (by rw [vp0]; exact hf) (by rw [vp0]; exact q1) q2 (by rw [vp0]; simpa [List.all_map] using q3) r H2 (by rw [vp0]; have := qa0 q5 q4 H2; rw [List.map_map] at this; exact this)
  unfold wan9
  rw [vp0, hf]
  simp only
  refine ⟨q1, q2, q3, ?_⟩
  rw [if_pos hdr]
  refine ⟨r, qa0 q5 q4 H, fun w => (by rw [hkp] at w; cases w), fun _ => by rw [← vp0]; exact hops, ?_⟩
  show tops _ _ _ _ _ _ (putA (Lst n s) d r) _
  rw [xr0]; exact q6.2
 ·exact h2.elim
end
abbrev ap_ := @wcr9
attribute [push_cast] xcr9
end Go.V
set_option linter.unusedVariables false
set_option autoImplicit false
namespace Go.V
open Go Go.RowKit
theorem nav {g s : Prop} (k : s) (h : s → g := by
  refine fun h => ?_
  first
   | (refine a0_ ?_; first|exact a1_ rfl rfl h|exact a2_ rfl h|exact a3_ rfl rfl h|exact a4_ rfl h|exact ak_ rfl rfl h|exact ap_ rfl rfl rfl rfl h|exact a5_ rfl rfl rfl h|exact a6_ rfl rfl h|exact a7_ rfl rfl h|exact a8_ rfl rfl h|exact a9_ rfl rfl rfl h)
   | (refine g0_ ?_; first|exact g1_ rfl h|exact g2_ rfl rfl h|exact g4_ rfl h|exact g5_ rfl h|exact g6_ rfl h|exact g7_ rfl h|exact g8_ rfl h|exact zbG9 rfl h|exact xbG9 rfl h)
   | (refine o0_ ?_; first|exact o1_ h|exact o2_ h|exact o3_ h|exact o4_ h|exact o5_ h|exact o6_ rfl h|exact o7_ rfl h|exact o8_ h|exact o9_ h|exact oa_ h|exact ob_ h|exact oc_ h|exact od_ h|exact oe_ h|exact of_ h|exact og_ h|exact oh_ h|exact wbj9 h|exact xaa9 h|exact zT0 h)
   | exact wcO9 h) : g := h k
theorem andG {a b : Prop} (k : b) (h : a := by first|omega|(simp only [maxLen]; omega)) : a ∧ b := ⟨h, k⟩
end Go.V
set_option linter.unusedVariables false
set_option linter.unusedSimpArgs false
set_option maxHeartbeats 0
namespace Go.V
open Go
mutual
def nz : AV → AV
 | .sl s es c => .sl (if es.isEmpty then 0 else s) (nzE es) c
 | .agg cs => .agg (nzL cs)
 | .tup cs => .tup (nzL cs)
 | .iptr cs o => .iptr (nzL cs) o
 | .int k n => .int k n
 | .bool b => .bool b
 | .str s => .str s
 | .own b n h c => .own b n h c
 | .ptr b i o h => .ptr b i o h
 | .fn f cap => .fn f cap
 | .mp b => .mp b
 | .opt g w => .opt g w
 | .lit u => .lit u
 | .anyb => .anyb
 | .anyi k => .anyi k
 | .err => .err
 | .top => .top
 | .yld b => .yld b
def nzL : List AV → List AV
 | [] => []
 | a :: as => nz a :: nzL as
def nzE : List (List AV) → List (List AV)
 | [] => []
 | e :: es => nzL e :: nzE es
end
theorem kaL9 : ∀ l : List AV, (nzL l).length = l.length
 | [] => rfl
 | _ :: l => by rw [nzL, List.length_cons, List.length_cons, kaL9 l]
theorem qaM9 : ∀ l : List (List AV), (nzE l).length = l.length
 | [] => rfl
 | _ :: l => by rw [nzE, List.length_cons, List.length_cons, qaM9 l]
theorem zdv9 (l : List (List AV)) : nzE l = [] ↔ l = [] := by
 cases l with
 | nil => simp [nzE]
 | cons _ _ => simp [nzE]
mutual
theorem vbG9 {E : Env} : ∀ (a : AV) (v : Value), Rel E (nz a) v ↔ Rel E a v
 | .sl s es c, v => by
  rw [nz]
  cases es with
  | nil => simp [Rel, nzE]
  | cons e es =>
   have h := fun g off => vcr9 (E := E) s (e :: es) g off
   simp only [Rel, qaM9, zdv9, List.isEmpty_cons, Bool.false_eq_true, if_false, h]
 | .agg cs, v => by
  have h := fun vs => vaz9 (E := E) cs vs
  simp only [nz, Rel, h]
 | .tup cs, v => by
  have h := fun vs => vaz9 (E := E) cs vs
  simp only [nz, Rel, h]
 | .iptr cs o, v => by
  have h := fun g off => kbw9 (E := E) cs g off
  simp only [nz, Rel, h]
 | .int k n, v => by rw [nz]
 | .bool b, v => by rw [nz]
 | .str s, v => by rw [nz]
 | .own b n h c, v => by rw [nz]
 | .ptr b i o h, v => by rw [nz]
 | .fn f cap, v => by rw [nz]
 | .mp b, v => by rw [nz]
 | .opt g w, v => by rw [nz]
 | .lit u, v => by rw [nz]
 | .anyb, v => by rw [nz]
 | .anyi k, v => by rw [nz]
 | .err, v => by rw [nz]
 | .top, v => by rw [nz]
 | .yld b, v => by rw [nz]
theorem vaz9 {E : Env} : ∀ (l : List AV) (vs : List Value), RelL E (nzL l) vs ↔ RelL E l vs
 | [], vs => by rw [nzL]
 | a :: as, vs => by
  have h1 := fun u => vbG9 (E := E) a u
  have h2 := fun us => vaz9 (E := E) as us
  simp only [nzL, RelL, h1, h2]
theorem kbw9 {E : Env} : ∀ (l : List AV) (g off : Nat), RelC E (nzL l) g off ↔ RelC E l g off
 | [], g, off => by rw [nzL]
 | a :: as, g, off => by
  have h1 := fun u => vbG9 (E := E) a u
  have h2 := fun g off => kbw9 (E := E) as g off
  simp only [nzL, RelC, h1, h2]
theorem vcr9 {E : Env} (s : Nat) : ∀ (l : List (List AV)) (g off : Nat), RelE E s (nzE l) g off ↔ RelE E s l g off
 | [], g, off => by rw [nzE]
 | e :: es, g, off => by
  have h1 := fun g off => kbw9 (E := E) e g off
  have h2 := fun g off => vcr9 (E := E) s es g off
  simp only [nzE, RelE, kaL9, h1, h2]
end
theorem qdW9 {P : Program} {G : Glob} {f : FuncId} {args : List AV} {r r' : AV} (h : PC P G f args r) (he : nz r = nz r') : PC P G f args r' := fun S vals hok hG ha =>
 (h S vals hok hG ha).mono fun e w' ⟨v, S', h1, h2, h3, h4, h5⟩ => ⟨v, S', h1, h2, h3, h4, by rw [← vbG9, ← he, vbG9]; exact h5⟩
theorem wdM9 {P : Program} {G : Glob} {f : FuncId} {args args' : List AV} {r : AV} (h : PC P G f args' r) (he : nzL args = nzL args') : PC P G f args r := fun S vals hok hG ha =>
 h S vals hok hG (by rw [← vaz9, ← he, vaz9]; exact ha)
end Go.V
set_option linter.unusedVariables false
namespace Go.V
open Go
def ownQ (fs : List Nat) : Operand → Bool
 | .func f => !fs.contains f
 | .global 3 => false
 | _ => true
section
variable {ρ : Bool} {P : Program} {G : Glob} {n0 n : Nat} {body : Code} {p : List Nat} {Q : wm0} {B : Prop} {s : Nat → AV} {H : List Blk} {dr : Operand → Bool} {k : Nat} {d : Option Nat}
theorem kbG9 (fs : List Nat) (hs : wY0 (atR body p) = true) (hd : xbf9 (atR body p) = false) (h : Acc ρ P G n0 n (ownQ fs) body p Q 0 B s H) : Go ρ P G n0 n body p Q B s H := by
 refine ⟨h.1, ?_⟩
 have h2 := h.2
 unfold At
 generalize atR body p = c at hs h2 hd
 cases c with
 | region id ops d =>
  cases hd
  simp only [kk0, List.drop_zero] at h2
  exact xaK9 (ops := ops.toList) h2
 | _ => cases hs
theorem waX9 {t : TypeId} {len : Nat} {ps : Array (Nat × Operand)} {ty pos af} {fs : List Nat} (h : (kk0 (atR body p))[k]? = some ⟨d, .buildSlice t len ps, ty, pos, af, none⟩)
  (hk : Acc ρ P G n0 n (ownQ fs) body p Q (k + 1) (B ∧ (qM0 P (.buildSlice t len ps) (evS G n s) H).1 = true) (put s d (qM0 P (.buildSlice t len ps) (evS G n s) H).2.1) (qM0 P (.buildSlice t len ps) (evS G n s) H).2.2) : Acc ρ P G n0 n (ownQ fs) body p Q k B s H := by
 obtain ⟨⟨h1, h2⟩, h3⟩ := hk
 refine ⟨h1, ?_⟩
 rw [wE0 h]
 have e : ev G (Lst n s) = evS G n s := vp0 G n s
 have key : opK P G (ownQ fs) (.buildSlice t len ps) (ev G (Lst n s)) H (fun r H' => tops P G (ownQ fs) (kk0 (atR body p)) (vU0 n Q .normal) ((kk0 (atR body p)).drop (k + 1)) (putA (Lst n s) d r) H') := by
  rw [e]
  refine .inr ⟨rfl, h2, ?_⟩
  have h4 := h3
  rw [← xr0] at h4
  exact h4
 exact key
end
attribute [push_cast] qM0 bOwn
end Go.V
set_option linter.unusedVariables false
namespace Go.V
open Go
def atQ : Operand → Bool
 | .global 4 => false
 | _ => true
section
variable {ρ : Bool} {P : Program} {G : Glob} {n0 n : Nat} {body : Code} {p : List Nat} {Q : wm0} {B : Prop} {s : Nat → AV} {H : List Blk} {k : Nat} {d : Option Nat}
theorem qbH9 (b : Nat) {t : TypeId} {l c : Operand} {ty pos af} (h : (kk0 (atR body p))[k]? = some ⟨d, .makeSlice t l c, ty, pos, af, none⟩)
  (hk : Acc ρ P G n0 n atQ body p Q (k + 1) (B ∧ (zF0 P (.makeSlice t l c) (evS G n s) H b).1 = true) (put s d (zF0 P (.makeSlice t l c) (evS G n s) H b).2.1) (zF0 P (.makeSlice t l c) (evS G n s) H b).2.2) : Acc ρ P G n0 n atQ body p Q k B s H := by
 obtain ⟨⟨h1, h2⟩, h3⟩ := hk
 refine ⟨h1, ?_⟩
 rw [wE0 h]
 have e : ev G (Lst n s) = evS G n s := vp0 G n s
 have key : opK P G atQ (.makeSlice t l c) (ev G (Lst n s)) H (fun r H' => tops P G atQ (kk0 (atR body p)) (vU0 n Q .normal) ((kk0 (atR body p)).drop (k + 1)) (putA (Lst n s) d r) H') := by
  rw [e]
  have h4 := h3
  rw [← xr0] at h4
  exact ⟨b, _, _, ⟨h2, rfl, rfl⟩, h4⟩
 exact key
theorem zaM9 {n0 n : Nat} (sz : Nat) (ty : TypeId) {s : Nat → AV} {H : List Blk} : Weak n0 (Lst n s) H (Lst n s) (H ++ [.row sz ty []]) := fun S vs hok hn ha => by
 have hext := qaW9 hok sz ty
 exact ⟨S.nil H.length, rfl, qcn9 hok sz ty, hext.less hn (Nat.le_refl _), ha.mono (hext.le (Nat.le_refl _))⟩
end
attribute [push_cast] zF0 vz0 wdm9 vdm9 kcK9 kdm9
end Go.V
set_option linter.unusedVariables false
namespace Go.V
open Go
def xG0 (p A q : Nat) (s : Nat) : List (List AV) := zj0 (fun a => if s * A + a < q then .own (s * A + a + p) 0 0 none else .sl 0 [] (some 0)) A
theorem qbY9 (p A s : Nat) : xG0 p A 0 s = List.replicate A [.sl 0 [] (some 0)] := by
 rw [wx0, xG0]
 exact xe0 fun a _ => by rw [if_neg (by omega)]
theorem kcr9 {p A N s : Nat} (h : s < N) : xG0 p A (N * A) s = zj0 (fun a => .own (s * A + a + p) 0 0 none) A := by
 rw [xG0]
 refine xe0 fun a ha => ?_
 have : s * A + a < N * A := by
  have := Nat.mul_le_mul_right A (show s + 1 ≤ N from h)
  rw [Nat.add_mul, Nat.one_mul] at this; omega
 rw [if_pos this]
theorem vaa9 {n0 n : Nat} (s : Nat → AV) (pre mid : List Blk) (N A : Nat) (z sz : Nat) (t ty : TypeId) {p : Nat} (hp : p = pre.length + N + mid.length) : ∀ q, q ≤ N * A →
  Weak n0 (Lst n s) (pre ++ (wd0 z t (fun _ => List.replicate A [.sl 0 [] (some 0)]) N ++ mid)) (Lst n s) (pre ++ (wd0 z t (xG0 p A q) N ++ (mid ++ wd0 sz ty (fun _ => []) q)))
 | 0, _ => by
  have e : wd0 z t (xG0 p A 0) N = wd0 z t (fun _ => List.replicate A [.sl 0 [] (some 0)]) N := kr0 fun s _ => qbY9 p A s
  rw [e, zbw9, List.append_nil]
  exact Weak.refl _ _
 | q + 1, hq => by
  have ih := vaa9 (n0 := n0) (n := n) s pre mid N A z sz t ty hp q (by omega)
  have hA : 0 < A := Nat.pos_of_ne_zero fun h => by subst h; simp at hq
  have hs : q / A < N := (Nat.div_lt_iff_lt_mul hA).2 (by omega)
  have ha : q % A < A := Nat.mod_lt _ hA
  have hqa : q / A * A + q % A = q := by rw [Nat.mul_comm]; exact Nat.div_add_mod q A
  have hl : (pre ++ (wd0 z t (xG0 p A q) N ++ (mid ++ wd0 sz ty (fun _ => []) q))).length = q + p := by
   simp only [List.length_append, rf_len]; omega
  have hb : (pre ++ (wd0 z t (xG0 p A q) N ++ (mid ++ wd0 sz ty (fun _ => []) q)))[pre.length + q / A]? = some (.row z t (xG0 p A q (q / A))) := by
   rw [List.getElem?_append_right (Nat.le_add_right _ _), Nat.add_sub_cancel_left, qaz9 _ hs]
  have hi : (xG0 p A q (q / A))[q % A]? = some [.sl 0 [] (some 0)] := by
   rw [xG0, zj0, List.getElem?_map, List.getElem?_range ha]
   simp only [Option.map_some]
   rw [if_neg (by omega)]
  have hw := vi0 (n0 := n0) (n := n) (s := s) (sz := sz) (ty := ty) (j := 0) hb hi rfl
  refine ih.trans ?_
  rw [hl] at hw
  have hset : (pre ++ (wd0 z t (xG0 p A q) N ++ (mid ++ wd0 sz ty (fun _ => []) q))).set (pre.length + q / A) (.row z t ((xG0 p A q (q / A)).set (q % A) ([AV.sl 0 [] (some 0)].set 0 (.own (q + p) 0 0 none)))) ++ [.row sz ty []] =
    pre ++ (wd0 z t (xG0 p A (q + 1)) N ++ (mid ++ wd0 sz ty (fun _ => []) (q + 1))) := by
   rw [List.set_append_right _ _ (Nat.le_add_right _ _), Nat.add_sub_cancel_left, zaX9 _ _ hs, List.append_assoc, List.append_assoc, List.append_assoc, xbw9]
   congr 2
   refine kr0 fun s' hs' => ?_
   unfold updF
   by_cases e : s' = q / A
   ·rw [if_pos e, e]
    show (xG0 p A q (q / A)).set (q % A) [.own (q + p) 0 0 none] = _
    rw [xG0, zG0, xG0]
    refine xe0 fun a ha' => ?_
    unfold updF
    by_cases e2 : a = q % A
    ·subst e2
     rw [if_pos rfl, hqa, if_pos (by omega)]
    ·rw [if_neg e2]
     have : q / A * A + a < q ↔ q / A * A + a < q + 1 := by omega
     simp only [this]
   ·rw [if_neg e, xG0, xG0]
    refine xe0 fun a ha' => ?_
    have hne : s' * A + a ≠ q := fun h => e (by
     rw [← h, Nat.mul_comm, Nat.mul_add_div hA, Nat.div_eq_of_lt ha', Nat.add_zero])
    have : s' * A + a < q ↔ s' * A + a < q + 1 := by omega
    simp only [this]
  rw [hset] at hw
  exact hw
end Go.V
