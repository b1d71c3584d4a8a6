import Derived.Test.YtcoakjnmnommpaaDoorVS
import Derived.Test.YtcoakjnmnommpaaDoorV34
import Derived.OpenShut
import Derived.Scope
import Derived.Lib.LastIndexByte
import Derived.Lib.SlTrimSet
import Derived.Lib.Strings
import Derived.Lib.IndexLaws
import Derived.Lib.LaidTab
import Derived.Lib.SmallJoins
set_option linter.unusedVariables false
set_option linter.unusedSimpArgs false
set_option autoImplicit false
namespace Go.V
open Go Go.RowKit
mutual
theorem qbC9 {p q : Nat → Bool} (h : ∀ b, p b = true → q b = true) : ∀ a : AV, a.ids p = true → a.ids q = true
 | .own b _ _ _, ha => by simp only [AV.ids] at ha ⊢; exact h b ha
 | .ptr b _ _ _, ha => by simp only [AV.ids] at ha ⊢; exact h b ha
 | .mp b, ha => by simp only [AV.ids] at ha ⊢; exact h b ha
 | .yld b, ha => by simp only [AV.ids] at ha ⊢; exact h b ha
 | .agg cs, ha => by simp only [AV.ids] at ha ⊢; exact zD0 h cs ha
 | .tup cs, ha => by simp only [AV.ids] at ha ⊢; exact zD0 h cs ha
 | .sl _ es _, ha => by simp only [AV.ids] at ha ⊢; exact wbe9 h es ha
 | .iptr cs _, ha => by simp only [AV.ids] at ha ⊢; exact zD0 h cs ha
 | .fn _ cs, ha => by simp only [AV.ids] at ha ⊢; exact zD0 h cs ha
 | .opt _ v, ha => by simp only [AV.ids] at ha ⊢; exact qbC9 h v ha
 | .int _ _, _ => rfl
 | .bool _, _ => rfl
 | .str _, _ => rfl
 | .top, _ => rfl
 | .anyb, _ => rfl
 | .lit _, _ => rfl
 | .anyi _, _ => rfl
 | .err, _ => rfl
theorem zD0 {p q : Nat → Bool} (h : ∀ b, p b = true → q b = true) : ∀ as : List AV, idsL p as = true → idsL q as = true
 | [], _ => rfl
 | a :: as, ha => by
  simp only [idsL, Bool.and_eq_true] at ha ⊢
  exact ⟨qbC9 h a ha.1, zD0 h as ha.2⟩
theorem wbe9 {p q : Nat → Bool} (h : ∀ b, p b = true → q b = true) : ∀ es : List (List AV), idsE p es = true → idsE q es = true
 | [], _ => rfl
 | e :: es, ha => by
  simp only [idsE, Bool.and_eq_true] at ha ⊢
  exact ⟨zD0 h e ha.1, wbe9 h es ha.2⟩
end
section
variable {n N z z2 I : Nat} {t t2 : TypeId} {c : Option Nat} {B : List Blk}
end
end Go.V
set_option linter.unusedVariables false
set_option linter.unusedSimpArgs false
set_option autoImplicit false
namespace Go.V
open Go Go.RowKit Go.ChangeShapes Go.WideShapes Go.ChangeAt
def View.array2 {P : Program} {t e : TypeId} {α : Type} (c : Nat) (hu : P.underlying t = some (.array 2 e)) (hc : P.cellsOf e = c) (ht : P.cellsOf t = c + c) (v : View P e α) : View P t (α × α) where
 to y := v.to y.1 ++ v.to y.2
 ok y := v.ok y.1 ∧ v.ok y.2
 get {H enc w fuel cs x} h := by
  obtain ⟨xs, m, rfl, _, h1, h2, h3⟩ := DataW.trod_array hu h
  have a0 := h3 0 (by omega)
  have a1 := h3 1 (by omega)
  rw [hc, List.getElem?_eq_getElem (by omega)] at a0 a1
  rw [Nat.zero_mul, List.drop_zero] at a0
  rw [Nat.one_mul, List.take_of_length_le (by rw [List.length_drop]; omega)] at a1
  obtain ⟨y1, q1, q2, q3⟩ := v.get a0
  obtain ⟨y2, p1, p2, p3⟩ := v.get a1
  have e : cs = cs.take c ++ cs.drop c := (List.take_append_drop c cs).symm
  refine ⟨(y1, y2), ⟨q1, p1⟩, ?_, ?_⟩
  ·rw [e]; exact q2.append p2
  ·rw [e]; intro u hu
   rcases List.mem_append.1 hu with q|q
   ·exact q3 u q
   ·exact p3 u q
end Go.V
set_option linter.unusedVariables false
set_option linter.unusedSimpArgs false
set_option autoImplicit false
namespace Go.V
open Go Go.RowKit
def updF {α : Type} (f : Nat → α) (q : Nat) (v : α) : Nat → α := fun s => if s = q then v else f s
def xn0 (f : Nat → AV) (N : Nat) : List (List AV) := (List.range N).map fun s => [f s]
theorem kZ0 (f : Nat → AV) (N : Nat) : (xn0 f N).length = N := by simp [xn0]
theorem zaw9 {f : Nat → AV} {N k : Nat} (h : k < N) : (xn0 f N).getD k [] = [f k] := by simp [xn0, h]
theorem xN0 {f : Nat → AV} {N q : Nat} (v : AV) : (xn0 f N).set q [v] = xn0 (updF f q v) N := by
 refine List.ext_getElem (by simp [xn0]) fun k h1 h2 => ?_
 rw [List.getElem_set]
 simp only [xn0, List.getElem_map, List.getElem_range, updF]
 by_cases h : q = k
 ·subst h; simp
 ·rw [if_neg h, if_neg (fun e => h e.symm)]
theorem qg0 {f g : Nat → AV} {N : Nat} (h : ∀ s, s < N → f s = g s) : xn0 f N = xn0 g N := List.map_congr_left fun s hs => by rw [h s (List.mem_range.1 hs)]
theorem wI0 (v : AV) (N : Nat) : List.replicate N [v] = xn0 (fun _ => v) N := by
 refine List.ext_getElem (by simp [xn0]) fun k h1 h2 => ?_
 simp [xn0]
def kf0 (z : Nat) (t : TypeId) (g : Nat → List (List AV)) (N : Nat) : List Blk := (List.range N).map fun s => .row z t (g s)
section
variable {z N q : Nat} {t : TypeId} {g : Nat → List (List AV)}
theorem rf_len (z : Nat) (t : TypeId) (g : Nat → List (List AV)) (N : Nat) : (kf0 z t g N).length = N := by simp [kf0]
theorem vbs9 (z : Nat) (t : TypeId) (g : Nat → List (List AV)) : kf0 z t g 0 = [] := rfl
theorem zbC9 (h : q < N) : (kf0 z t g N)[q]? = some (.row z t (g q)) := by simp [kf0, h]
theorem kck9 (es : List (List AV)) : (kf0 z t g N).set q (.row z t es) = kf0 z t (updF g q es) N := by
 refine List.ext_getElem (by simp [kf0]) fun k h1 h2 => ?_
 rw [List.getElem_set]
 simp only [kf0, List.getElem_map, List.getElem_range, updF]
 by_cases h : q = k
 ·subst h; simp
 ·rw [if_neg h, if_neg (fun e => h e.symm)]
theorem kbs9 (z : Nat) (t : TypeId) (g : Nat → List (List AV)) (N : Nat) : kf0 z t g N ++ [.row z t (g N)] = kf0 z t g (N + 1) := by simp [kf0, List.range_succ]
theorem zs0 {g' : Nat → List (List AV)} (h : ∀ s, s < N → g s = g' s) : kf0 z t g N = kf0 z t g' N := List.map_congr_left fun s hs => by rw [h s (List.mem_range.1 hs)]
theorem qbt9 (K : List Blk) (hq : q < N) : (kf0 z t g N ++ K)[q]? = some (.row z t (g q)) := by
 rw [List.getElem?_append_left (by rw [rf_len]; omega)]; exact zbC9 hq
theorem qdC9 (K : List Blk) (j : Nat) : (kf0 z t g N ++ K)[N + j]? = K[j]? := by
 rw [List.getElem?_append_right (by rw [rf_len]; omega), rf_len, Nat.add_sub_cancel_left]
theorem xbC9 (K : List Blk) : (kf0 z t g N ++ K)[N]? = K[0]? := qdC9 K 0
theorem zbt9 (es : List (List AV)) (K : List Blk) (hq : q < N) : (kf0 z t g N ++ K).set q (.row z t es) = kf0 z t (updF g q es) N ++ K := by
 rw [List.set_append_left _ _ (by rw [rf_len]; omega), kck9]
end
end Go.V
set_option linter.unusedVariables false
set_option linter.unusedSimpArgs false
set_option autoImplicit false
namespace Go.V
open Go Go.RowKit
section
variable {P : Program} {G : Glob} {q : Operand → Bool}
variable {ops : List Oper} {md : Region.Mode} {rs : List (Nat × Nat)} {K : List AV → List Blk → Prop}
def vcY9 (P : Program) (G : Glob) (q : Operand → Bool) (ops : List Oper) (rs : List (Nat × Nat)) (o : Oper) (a : List AV) (H : List Blk) (r : AV) (H' : List Blk) : Prop :=
 qaZ9 P G q ops o a H r H' ∧ (zan9 rs o = true → ∀ H2, qn0 P G ops o a H2 r H2)
def kdJ9 (P : Program) (G : Glob) (q : Operand → Bool) (ops : List Oper) (rs : List (Nat × Nat)) (md : Region.Mode) (K : List AV → List Blk → Prop) : Nat → Array Bool → List AV → List Blk → Prop
 | 0, listed, a, H => Region.ready md ops.toArray listed = [] ∧ K a H
 | fuel + 1, listed, a, H => (Region.ready md ops.toArray listed = [] → K a H) ∧
   ∀ i ∈ Region.ready md ops.toArray listed, ∃ o, ops[i]? = some o ∧ ∃ r H', vcY9 P G q ops rs o a H r H' ∧ kdJ9 P G q ops rs md K fuel (listed.setIfInBounds i true) (putA a o.dst r) H'
def lexI (q : Operand → Bool) (rs : List (Nat × Nat)) (md : Region.Mode) (ops : Array Oper) (T : Nat) : Nat → Nat → Array Bool → Bool
 | 0, _, listed => (Region.ready md ops listed).isEmpty
 | n + 1, k, listed => decide (k < 256) && (Region.ready md ops listed).contains k &&
   ((List.range ops.size).all fun j => j == k || listed.getD j true || T.testBit (j * 256 + k) ||
    (match ops[k]?, ops[j]? with|some ok, some oj => (qbp9 q ok.op oj.op || (zan9 rs ok || zan9 rs oj)) && ok.apart ops oj|_, _ => false)) &&
   lexI q rs md ops T n (k + 1) (listed.setIfInBounds k true)
def kcL9 (q : Operand → Bool) (rs : List (Nat × Nat)) (ops : List Oper) : Bool :=
 match ancT .any ops 0 0 with
 | 0 => lexI q rs .any ops.toArray 0 ops.length 0 (Array.replicate ops.length false)
 | n + 1 => lexI q rs .any ops.toArray (n + 1) ops.length 0 (Array.replicate ops.length false)
def zdC9 (P : Program) (G : Glob) (q : Operand → Bool) (ops : List Oper) (rs : List (Nat × Nat)) (K : List AV → List Blk → Prop) : List Oper → List AV → List Blk → Prop
 | [], a, H => K a H
 | o :: rest, a, H => ∃ r H', vcY9 P G q ops rs o a H r H' ∧ zdC9 P G q ops rs K rest (putA a o.dst r) H'
def immC (rs : List (Nat × Nat)) (a : List AV) : Prop := ∀ x ∈ rs, topB (getA a x.2).strip = none
end
section
variable {P : Program} {G : Glob} {ρ : Bool} {n0 : Nat} {Q : Post} {a : List AV} {H : List Blk}
end
def immB : List (Nat × Nat) → (Nat → AV) → Bool
 | [], _ => true
 | (_, x) :: rs, s => (topB (s x).strip).isNone && immB rs s
def immQ (rs : List (Nat × Nat)) (Q : xk0) : xk0 := fun e s H => Q e s H ∧ immB rs s = true
section
variable {ρ : Bool} {P : Program} {G : Glob} {n0 n : Nat} {body : Code} {p : List Nat} {Q : xk0} {B : Prop} {s : Nat → AV} {H : List Blk} {dr : Operand → Bool}
def qdK9 (dr : Operand → Bool) (rs : List (Nat × Nat)) (ops : List Oper) : Bool := kcL9 dr rs ops && qaI9 rs [] ops
theorem vdl9 {rs : List (Nat × Nat)} (h : Out Q .normal (B ∧ immB rs s = true) s H) : Out (immQ rs Q) .normal B s H := ⟨h.1.1, h.2, h.1.2⟩
end
attribute [push_cast] immB
end Go.V
namespace Go.V
abbrev oh_ := @vdl9
end Go.V
set_option linter.unusedVariables false
set_option linter.unusedSimpArgs false
set_option autoImplicit false
namespace Go.V
open Go Go.RowKit
theorem close_own {H : List Blk} {b n h z : Nat} {t : TypeId} {es : List (List AV)} {c : Option Nat} (hb : H[b]? = some (.row z t es)) (hn : n = es.length) (hh : h = es.length) (hi : idsE xaD9 es = true) : zcY9 H 1 (.own b n h c) = .sl z es c := by
 subst hn; subst hh
 unfold zcY9
 rw [if_pos (by
  simp only [okA, okC, zi0, shOf, hb, List.take_length]
  simp
  exact fun x hx y hy => (wX0 x).1 ((vX0 es).1 hi x hx) y hy)]
 simp [qt0, qh0, hb]
theorem kcY9 {H : List Blk} {b n h z : Nat} {t : TypeId} {es : List (List AV)} {c : Option Nat} (hb : H[b]? = some (.row z t es)) (hn : n = es.length) (hh : h = es.length) (hi : idsE xaD9 es = true) : okA H 1 (.own b n h c) = true := by
 subst hn; subst hh
 simp only [okA, okC, zi0, shOf, hb, List.take_length]
 simp
 exact fun x hx y hy => (wX0 x).1 ((vX0 es).1 hi x hx) y hy
theorem vbe9 {H : List Blk} {b n h z : Nat} {t : TypeId} {es : List (List AV)} {c : Option Nat} (hb : H[b]? = some (.row z t es)) (hn : n = es.length) (hh : h = es.length) : qt0 H 1 (.own b n h c) = .sl z es c := by
 subst hn; subst hh
 simp [qt0, qh0, hb]
end Go.V
set_option linter.unusedVariables false
set_option linter.unusedSimpArgs false
set_option autoImplicit false
namespace Go.V
open Go Go.RowKit
section
variable {P : Program} {b : Frame} {a : Act} {k : List Item} {cs : List Frame} {w : World}
theorem qr0 {c : Code} : step P (lone (b.atR a (.code (.scope c) :: k)) cs w) = .next (lone (b.atR a (.code c :: .inScope c :: k)) cs w) :=
 step_lone_go (by simp [stepG, stepG.exec, Frame.atR])
theorem vaT9 {c : Code} : step P (lone (b.atR a (.inScope c :: k)) cs w) = .next (lone (b.atR a k) cs w) :=
 step_lone_go (by simp [stepG, stepG.exec, Frame.atR])
end
theorem xbR9 {F : Fence} {n : Nat} {P : Program} {Q : Exit → Act → World → Prop} {a : Act} {w : World} {c : Code} (h : c.wpIn F n P (Exit.noGoto Q) a w) : (Code.scope c).wpIn F n P Q a w := by
 intro b k cs hro hb hr
 have h0 : (lone (b.atR a (.code (.scope c) :: k)) cs w).fenced P F := fenced_calm hb hr rfl
 obtain ⟨e, a₁, w₁, hq, harr⟩ := h b (.inScope c :: k) cs hro hb hr
 cases e with
 | normal => exact ⟨.normal, a₁, w₁, hq, .head h0 qr0 (StepsIn.trans harr (.one (fenced_calm hb hr rfl) vaT9))⟩
 | exit id =>
  have hx : exitTo id (.inScope c :: k) = exitTo id k := by simp [exitTo]
  exact ⟨_, a₁, w₁, hq, fun k' hk => .head h0 qr0 (harr.1 k' (by rw [hx]; exact hk)),
   fun hr' hk => let ⟨k₁, h1, h2⟩ := harr.2 hr' (by rw [hx]; exact hk); ⟨k₁, h1, .head h0 qr0 h2⟩⟩
 | goto l => exact hq.elim
 | ret => exact ⟨_, a₁, w₁, hq, .of_steps (.one h0 qr0) harr⟩
 | panic ch => exact ⟨_, a₁, w₁, hq, .of_steps (.one h0 qr0) harr⟩
 | outgrown => exact ⟨_, a₁, w₁, hq, .of_steps (.one h0 qr0) harr⟩
def xbt9 (Q : Post) : Post
 | .goto _, _, _ => False
 | e, a, H => Q e a H
def vah9 (Q : xk0) : xk0
 | .goto _, _, _ => False
 | e, s, H => Q e s H
section
variable {ρ : Bool} {P : Program} {G : Glob} {n0 n : Nat} {H : List Blk}
theorem qcl9 {Q : Post} {a : List AV} {c : Code} (h : AWp ρ P G n0 c (xbt9 Q) a H) : AWp ρ P G n0 (.scope c) Q a H := fun ro S act hr h1 h2 h3 h4 =>
 xbR9 (wpIn_mono (h ro S act hr h1 h2 h3 h4) fun e act' w' he => by
  cases e with
  | goto l =>
   obtain ⟨a', H', S', _, q, _⟩ := he
   exact q.elim
  | _ => exact he)
variable {body : Code} {p : List Nat} {Q : xk0} {B : Prop} {s : Nat → AV}
theorem kbe9 (n : Nat) (Q : xk0) : zT0 n (vah9 Q) = xbt9 (zT0 n Q) := by
 funext e a H
 cases e with
 | goto l => simp [zT0, vah9, xbt9]
 | _ => rfl
def kdl9 : Code → Bool
 | .scope _ => true
 | _ => false
def qdm9 : Code → Bool
 | .label _ => true
 | _ => false
theorem wbC9 (hs : kdl9 (atR body p) = true) (h : Go ρ P G n0 n body (0 :: p) (vah9 Q) B s H) : Go ρ P G n0 n body p Q B s H := by
 refine ⟨h.1, ?_⟩
 have h2 := h.2
 unfold At at h2 ⊢
 simp only [atR] at h2
 rw [kbe9] at h2
 generalize atR body p = c at *
 cases c with
 | scope c => exact qcl9 h2
 | _ => cases hs
theorem vbC9 (hs : qdm9 (atR body p) = true) (h : Out Q .normal B s H) : Go ρ P G n0 n body p Q B s H := by
 refine ⟨h.1, ?_⟩
 unfold At
 generalize atR body p = c at *
 cases c with
 | label l => exact zaZ9 ⟨_, rfl, h.2⟩
 | _ => cases hs
theorem qbf9 (h : Out Q .normal B s H) : Out (vah9 Q) .normal B s H := ⟨h.1, h.2⟩
theorem qaa9 (h : Out Q .ret B s H) : Out (vah9 Q) .ret B s H := ⟨h.1, h.2⟩
theorem xR0 {id : Nat} (h : Out Q (.exit id) B s H) : Out (vah9 Q) (.exit id) B s H := ⟨h.1, h.2⟩
end
abbrev ga_ := @wbC9
abbrev gb_ := @vbC9
abbrev oi_ := @qbf9
abbrev oj_ := @qaa9
abbrev ok_ := @xR0
end Go.V
set_option linter.unusedVariables false
set_option linter.unusedSimpArgs false
set_option autoImplicit false
namespace Go.V
open Go Go.RowKit
end Go.V
set_option linter.unusedVariables false
set_option linter.unusedSimpArgs false
namespace Go.V
open Go Go.RowKit
section
variable {P : Program} {G : Glob}
end
end Go.V
set_option linter.unusedVariables false
set_option linter.unusedSimpArgs false
namespace Go.V
open Go Go.RowKit Go.Lib
def zdK9 {H : Type} (zs : List (List UInt8)) : DataW H := .agg (zs.map fun z => .lit (.string z))
end Go.V
set_option linter.unusedVariables false
set_option linter.unusedSimpArgs false
namespace Go.V
open Go Go.RowKit
def qp0 (bs : List UInt8) : List (List AV) := bs.map fun b => [.int .u8 ((b.toNat : Nat) : Int)]
theorem qG0 : ∀ bs : List UInt8, qak9 (qp0 bs) = some bs
 | [] => rfl
 | b :: r => by
  show (qak9 (qp0 r)).map (UInt8.ofNat ((b.toNat : Nat) : Int).toNat :: ·) = _
  rw [qG0 r, Int.toNat_natCast, UInt8.ofNat_toNat]; rfl
theorem zaa9 (bs : List UInt8) : (qp0 bs).length = bs.length := by simp [qp0]
theorem xaw9 (p : Nat → Bool) (bs : List UInt8) : idsE p (qp0 bs) = true := vr0 _ _ fun x => by simp [idsL, AV.ids]
theorem wbt9 (bs : List UInt8) (b : UInt8) : qp0 bs ++ [[.int .u8 ((b.toNat : Nat) : Int)]] = qp0 (bs ++ [b]) := by simp [qp0]
attribute [simp] xaw9
attribute [push_cast] qG0 zaa9 xaw9
end Go.V
set_option linter.unusedVariables false
set_option linter.unusedSimpArgs false
namespace Go.V
open Go Go.RowKit
def St.glue (S S' : St) (n : Nat) : St := { S' with μ := fun b => if b < n then S'.μ b else S.μ b, ν := fun b => if b < n then S'.ν b else S.ν b }
section
variable {P : Program} {G : Glob}
end
end Go.V
set_option linter.unusedVariables false
set_option linter.unusedSimpArgs false
namespace Go.V
open Go Go.RowKit
end Go.V
set_option linter.unusedVariables false
set_option linter.unusedSimpArgs false
namespace Go.V
open Go Go.RowKit Go.Lib
abbrev Kd := List UInt8 × Bool × Bool × Bool
def qdU9 {H : Type} (zs : List Kd) : DataW H := .agg (zs.map fun z => .agg [.lit (.string z.1), .lit (.bool z.2.1), .lit (.bool z.2.2.1), .lit (.bool z.2.2.2)])
def xdK9 (z : Kd) : List Value := [.string ⟨z.1.toArray⟩, .bool z.2.1, .bool z.2.2.1, .bool z.2.2.2]
section
variable {H : Type} {enc : TypeId × Value → H} {P : Program} {w : World} {base : Nat} {sp : Nat → Bool} {held : Bool}
end
end Go.V
set_option linter.unusedVariables false
set_option autoImplicit false
namespace Go.V
open Go Go.RowKit
theorem nav {g s : Prop} (k : s) (h : s → g := by
  refine fun h => ?_
  first
   | (refine a0_ ?_; first|exact a1_ rfl rfl h|exact a2_ rfl h|exact a3_ rfl rfl h|exact a4_ rfl h|exact ak_ rfl rfl h|exact a5_ rfl rfl rfl h|exact a6_ rfl rfl h|exact a7_ rfl rfl h|exact a8_ rfl rfl h|exact a9_ rfl rfl rfl h)
   | (refine g0_ ?_; first|exact g1_ rfl h|exact g2_ rfl rfl h|exact g4_ rfl h|exact g5_ rfl h|exact g6_ rfl h|exact g7_ rfl h|exact g8_ rfl h|exact wbC9 rfl h|exact vbC9 rfl h)
   | (refine o0_ ?_; first|exact o1_ h|exact o2_ h|exact o3_ h|exact o4_ h|exact o5_ h|exact o6_ rfl h|exact o7_ rfl h|exact o8_ h|exact o9_ h|exact oa_ h|exact ob_ h|exact oc_ h|exact od_ h|exact oe_ h|exact of_ h|exact og_ h|exact oh_ h|exact qbf9 h|exact qaa9 h|exact xR0 h)
   | exact qdz9 h) : g := h k
theorem andG {a b : Prop} (k : b) (h : a := by first|omega|(simp only [maxLen]; omega)) : a ∧ b := ⟨h, k⟩
end Go.V
set_option linter.unusedVariables false
set_option linter.unusedSimpArgs false
set_option maxHeartbeats 0
namespace Go.V
open Go
mutual
def nz : AV → AV
 | .sl s es c => .sl (if es.isEmpty then 0 else s) (nzE es) c
 | .agg cs => .agg (nzL cs)
 | .tup cs => .tup (nzL cs)
 | .iptr cs o => .iptr (nzL cs) o
 | .int k n => .int k n
 | .bool b => .bool b
 | .str s => .str s
 | .own b n h c => .own b n h c
 | .ptr b i o h => .ptr b i o h
 | .fn f cap => .fn f cap
 | .mp b => .mp b
 | .opt g w => .opt g w
 | .lit u => .lit u
 | .anyb => .anyb
 | .anyi k => .anyi k
 | .err => .err
 | .top => .top
 | .yld b => .yld b
def nzL : List AV → List AV
 | [] => []
 | a :: as => nz a :: nzL as
def nzE : List (List AV) → List (List AV)
 | [] => []
 | e :: es => nzL e :: nzE es
end
theorem xaI9 : ∀ l : List AV, (nzL l).length = l.length
 | [] => rfl
 | _ :: l => by rw [nzL, List.length_cons, List.length_cons, xaI9 l]
theorem waI9 : ∀ l : List (List AV), (nzE l).length = l.length
 | [] => rfl
 | _ :: l => by rw [nzE, List.length_cons, List.length_cons, waI9 l]
theorem zdm9 (l : List (List AV)) : nzE l = [] ↔ l = [] := by
 cases l with
 | nil => simp [nzE]
 | cons _ _ => simp [nzE]
mutual
theorem kbC9 {E : Env} : ∀ (a : AV) (v : Value), Rel E (nz a) v ↔ Rel E a v
 | .sl s es c, v => by
  rw [nz]
  cases es with
  | nil => simp [Rel, nzE]
  | cons e es =>
   have h := fun g off => zcl9 (E := E) s (e :: es) g off
   simp only [Rel, waI9, zdm9, List.isEmpty_cons, Bool.false_eq_true, if_false, h]
 | .agg cs, v => by
  have h := fun vs => waw9 (E := E) cs vs
  simp only [nz, Rel, h]
 | .tup cs, v => by
  have h := fun vs => waw9 (E := E) cs vs
  simp only [nz, Rel, h]
 | .iptr cs o, v => by
  have h := fun g off => vbt9 (E := E) cs g off
  simp only [nz, Rel, h]
 | .int k n, v => by rw [nz]
 | .bool b, v => by rw [nz]
 | .str s, v => by rw [nz]
 | .own b n h c, v => by rw [nz]
 | .ptr b i o h, v => by rw [nz]
 | .fn f cap, v => by rw [nz]
 | .mp b, v => by rw [nz]
 | .opt g w, v => by rw [nz]
 | .lit u, v => by rw [nz]
 | .anyb, v => by rw [nz]
 | .anyi k, v => by rw [nz]
 | .err, v => by rw [nz]
 | .top, v => by rw [nz]
 | .yld b, v => by rw [nz]
theorem waw9 {E : Env} : ∀ (l : List AV) (vs : List Value), RelL E (nzL l) vs ↔ RelL E l vs
 | [], vs => by rw [nzL]
 | a :: as, vs => by
  have h1 := fun u => kbC9 (E := E) a u
  have h2 := fun us => waw9 (E := E) as us
  simp only [nzL, RelL, h1, h2]
theorem vbt9 {E : Env} : ∀ (l : List AV) (g off : Nat), RelC E (nzL l) g off ↔ RelC E l g off
 | [], g, off => by rw [nzL]
 | a :: as, g, off => by
  have h1 := fun u => kbC9 (E := E) a u
  have h2 := fun g off => vbt9 (E := E) as g off
  simp only [nzL, RelC, h1, h2]
theorem zcl9 {E : Env} (s : Nat) : ∀ (l : List (List AV)) (g off : Nat), RelE E s (nzE l) g off ↔ RelE E s l g off
 | [], g, off => by rw [nzE]
 | e :: es, g, off => by
  have h1 := fun g off => vbt9 (E := E) e g off
  have h2 := fun g off => zcl9 (E := E) s es g off
  simp only [nzE, RelE, xaI9, h1, h2]
end
theorem wdK9 {P : Program} {G : Glob} {f : FuncId} {args : List AV} {r r' : AV} (h : PC P G f args r) (he : nz r = nz r') : PC P G f args r' := fun S vals hok hG ha =>
 (h S vals hok hG ha).mono fun e w' ⟨v, S', h1, h2, h3, h4, h5⟩ => ⟨v, S', h1, h2, h3, h4, by rw [← kbC9, ← he, kbC9]; exact h5⟩
theorem xdC9 {P : Program} {G : Glob} {f : FuncId} {args args' : List AV} {r : AV} (h : PC P G f args' r) (he : nzL args = nzL args') : PC P G f args r := fun S vals hok hG ha =>
 h S vals hok hG (by rw [← waw9, ← he, waw9]; exact ha)
end Go.V
set_option linter.unusedVariables false
namespace Go.V
open Go
def ownQ (fs : List Nat) : Operand → Bool
 | .func f => !fs.contains f
 | .global 3 => false
 | _ => true
section
variable {ρ : Bool} {P : Program} {G : Glob} {n0 n : Nat} {body : Code} {p : List Nat} {Q : xk0} {B : Prop} {s : Nat → AV} {H : List Blk} {dr : Operand → Bool} {k : Nat} {d : Option Nat}
theorem zbf9 (fs : List Nat) (hs : qY0 (atR body p) = true) (hd : kba9 (atR body p) = false) (h : Acc ρ P G n0 n (ownQ fs) body p Q 0 B s H) : Go ρ P G n0 n body p Q B s H := by
 refine ⟨h.1, ?_⟩
 have h2 := h.2
 unfold At
 generalize atR body p = c at hs h2 hd
 cases c with
 | region id ops d =>
  cases hd
  simp only [wj0, List.drop_zero] at h2
  exact kaG9 (ops := ops.toList) h2
 | _ => cases hs
theorem vaw9 {t : TypeId} {len : Nat} {ps : Array (Nat × Operand)} {ty pos af} {fs : List Nat} (h : (wj0 (atR body p))[k]? = some ⟨d, .buildSlice t len ps, ty, pos, af, none⟩)
  (hk : Acc ρ P G n0 n (ownQ fs) body p Q (k + 1) (B ∧ (qK0 P (.buildSlice t len ps) (evS G n s) H).1 = true) (put s d (qK0 P (.buildSlice t len ps) (evS G n s) H).2.1) (qK0 P (.buildSlice t len ps) (evS G n s) H).2.2) : Acc ρ P G n0 n (ownQ fs) body p Q k B s H := by
 obtain ⟨⟨h1, h2⟩, h3⟩ := hk
 refine ⟨h1, ?_⟩
 rw [xF0 h]
 have e : ev G (Lst n s) = evS G n s := xx0 G n s
 have key : opK P G (ownQ fs) (.buildSlice t len ps) (ev G (Lst n s)) H (fun r H' => tops P G (ownQ fs) (wj0 (atR body p)) (zT0 n Q .normal) ((wj0 (atR body p)).drop (k + 1)) (putA (Lst n s) d r) H') := by
  rw [e]
  refine .inr ⟨rfl, h2, ?_⟩
  have h4 := h3
  rw [← kr0] at h4
  exact h4
 exact key
end
attribute [push_cast] qK0 bOwn
end Go.V
set_option linter.unusedVariables false
namespace Go.V
open Go
def atQ : Operand → Bool
 | .global 4 => false
 | _ => true
section
variable {ρ : Bool} {P : Program} {G : Glob} {n0 n : Nat} {body : Code} {p : List Nat} {Q : xk0} {B : Prop} {s : Nat → AV} {H : List Blk} {k : Nat} {d : Option Nat}
theorem qbD9 (b : Nat) {t : TypeId} {l c : Operand} {ty pos af} (h : (wj0 (atR body p))[k]? = some ⟨d, .makeSlice t l c, ty, pos, af, none⟩)
  (hk : Acc ρ P G n0 n atQ body p Q (k + 1) (B ∧ (wC0 P (.makeSlice t l c) (evS G n s) H b).1 = true) (put s d (wC0 P (.makeSlice t l c) (evS G n s) H b).2.1) (wC0 P (.makeSlice t l c) (evS G n s) H b).2.2) : Acc ρ P G n0 n atQ body p Q k B s H := by
 obtain ⟨⟨h1, h2⟩, h3⟩ := hk
 refine ⟨h1, ?_⟩
 rw [xF0 h]
 have e : ev G (Lst n s) = evS G n s := xx0 G n s
 have key : opK P G atQ (.makeSlice t l c) (ev G (Lst n s)) H (fun r H' => tops P G atQ (wj0 (atR body p)) (zT0 n Q .normal) ((wj0 (atR body p)).drop (k + 1)) (putA (Lst n s) d r) H') := by
  rw [e]
  have h4 := h3
  rw [← kr0] at h4
  exact ⟨b, _, _, ⟨h2, rfl, rfl⟩, h4⟩
 exact key
theorem vaI9 {n0 n : Nat} (sz : Nat) (ty : TypeId) {s : Nat → AV} {H : List Blk} : Weak n0 (Lst n s) H (Lst n s) (H ++ [.row sz ty []]) := fun S vs hok hn ha => by
 have hext := waS9 hok sz ty
 exact ⟨S.nil H.length, rfl, zch9 hok sz ty, hext.less hn (Nat.le_refl _), ha.mono (hext.le (Nat.le_refl _))⟩
end
attribute [push_cast] wC0 zx0 zdd9 xdd9 wcD9 wdd9
end Go.V
set_option linter.unusedVariables false
namespace Go.V
open Go
def xD0 (p A q : Nat) (s : Nat) : List (List AV) := xn0 (fun a => if s * A + a < q then .own (s * A + a + p) 0 0 none else .sl 0 [] (some 0)) A
theorem wbR9 (p A s : Nat) : xD0 p A 0 s = List.replicate A [.sl 0 [] (some 0)] := by
 rw [wI0, xD0]
 exact qg0 fun a _ => by rw [if_neg (by omega)]
theorem xcl9 {p A N s : Nat} (h : s < N) : xD0 p A (N * A) s = xn0 (fun a => .own (s * A + a + p) 0 0 none) A := by
 rw [xD0]
 refine qg0 fun a ha => ?_
 have : s * A + a < N * A := by
  have := Nat.mul_le_mul_right A (show s + 1 ≤ N from h)
  rw [Nat.add_mul, Nat.one_mul] at this; omega
 rw [if_pos this]
theorem xaa9 {n0 n : Nat} (s : Nat → AV) (pre mid : List Blk) (N A : Nat) (z sz : Nat) (t ty : TypeId) {p : Nat} (hp : p = pre.length + N + mid.length) : ∀ q, q ≤ N * A →
  Weak n0 (Lst n s) (pre ++ (kf0 z t (fun _ => List.replicate A [.sl 0 [] (some 0)]) N ++ mid)) (Lst n s) (pre ++ (kf0 z t (xD0 p A q) N ++ (mid ++ kf0 sz ty (fun _ => []) q)))
 | 0, _ => by
  have e : kf0 z t (xD0 p A 0) N = kf0 z t (fun _ => List.replicate A [.sl 0 [] (some 0)]) N := zs0 fun s _ => wbR9 p A s
  rw [e, vbs9, List.append_nil]
  exact Weak.refl _ _
 | q + 1, hq => by
  have ih := xaa9 (n0 := n0) (n := n) s pre mid N A z sz t ty hp q (by omega)
  have hA : 0 < A := Nat.pos_of_ne_zero fun h => by subst h; simp at hq
  have hs : q / A < N := (Nat.div_lt_iff_lt_mul hA).2 (by omega)
  have ha : q % A < A := Nat.mod_lt _ hA
  have hqa : q / A * A + q % A = q := by rw [Nat.mul_comm]; exact Nat.div_add_mod q A
  have hl : (pre ++ (kf0 z t (xD0 p A q) N ++ (mid ++ kf0 sz ty (fun _ => []) q))).length = q + p := by
   simp only [List.length_append, rf_len]; omega
  have hb : (pre ++ (kf0 z t (xD0 p A q) N ++ (mid ++ kf0 sz ty (fun _ => []) q)))[pre.length + q / A]? = some (.row z t (xD0 p A q (q / A))) := by
   rw [List.getElem?_append_right (Nat.le_add_right _ _), Nat.add_sub_cancel_left, qbt9 _ hs]
  have hi : (xD0 p A q (q / A))[q % A]? = some [.sl 0 [] (some 0)] := by
   rw [xD0, xn0, List.getElem?_map, List.getElem?_range ha]
   simp only [Option.map_some]
   rw [if_neg (by omega)]
  have hw := ve0 (n0 := n0) (n := n) (s := s) (sz := sz) (ty := ty) (j := 0) hb hi rfl
  refine ih.trans ?_
  rw [hl] at hw
  have hset : (pre ++ (kf0 z t (xD0 p A q) N ++ (mid ++ kf0 sz ty (fun _ => []) q))).set (pre.length + q / A) (.row z t ((xD0 p A q (q / A)).set (q % A) ([AV.sl 0 [] (some 0)].set 0 (.own (q + p) 0 0 none)))) ++ [.row sz ty []] =
    pre ++ (kf0 z t (xD0 p A (q + 1)) N ++ (mid ++ kf0 sz ty (fun _ => []) (q + 1))) := by
   rw [List.set_append_right _ _ (Nat.le_add_right _ _), Nat.add_sub_cancel_left, zbt9 _ _ hs, List.append_assoc, List.append_assoc, List.append_assoc, kbs9]
   congr 2
   refine zs0 fun s' hs' => ?_
   unfold updF
   by_cases e : s' = q / A
   ·rw [if_pos e, e]
    show (xD0 p A q (q / A)).set (q % A) [.own (q + p) 0 0 none] = _
    rw [xD0, xN0, xD0]
    refine qg0 fun a ha' => ?_
    unfold updF
    by_cases e2 : a = q % A
    ·subst e2
     rw [if_pos rfl, hqa, if_pos (by omega)]
    ·rw [if_neg e2]
     have : q / A * A + a < q ↔ q / A * A + a < q + 1 := by omega
     simp only [this]
   ·rw [if_neg e, xD0, xD0]
    refine qg0 fun a ha' => ?_
    have hne : s' * A + a ≠ q := fun h => e (by
     rw [← h, Nat.mul_comm, Nat.mul_add_div hA, Nat.div_eq_of_lt ha', Nat.add_zero])
    have : s' * A + a < q ↔ s' * A + a < q + 1 := by omega
    simp only [this]
  rw [hset] at hw
  exact hw
end Go.V
