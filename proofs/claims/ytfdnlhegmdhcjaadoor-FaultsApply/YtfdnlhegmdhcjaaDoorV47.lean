import Derived.Test.YtfdnlhegmdhcjaaDoorV44
import Derived.Scope
set_option linter.unusedVariables false
set_option linter.unusedSimpArgs false
set_option autoImplicit false
namespace Go.V
open Go Go.RowKit
section
variable {P : Program} {G : Glob} {q : Operand → Bool}
variable {ops : List Oper} {md : Region.Mode} {rs : List (Nat × Nat)} {K : List AV → List Blk → Prop}
def DStepI (P : Program) (G : Glob) (q : Operand → Bool) (ops : List Oper) (rs : List (Nat × Nat)) (o : Oper) (a : List AV) (H : List Blk) (r : AV) (H' : List Blk) : Prop :=
 DStep P G q ops o a H r H' ∧ (rFlag rs o = true → ∀ H2, Step1 P G ops o a H2 r H2)
def AAnyI (P : Program) (G : Glob) (q : Operand → Bool) (ops : List Oper) (rs : List (Nat × Nat)) (md : Region.Mode) (K : List AV → List Blk → Prop) : Nat → Array Bool → List AV → List Blk → Prop
 | 0, listed, a, H => Region.ready md ops.toArray listed = [] ∧ K a H
 | fuel + 1, listed, a, H => (Region.ready md ops.toArray listed = [] → K a H) ∧
   ∀ i ∈ Region.ready md ops.toArray listed, ∃ o, ops[i]? = some o ∧ ∃ r H', DStepI P G q ops rs o a H r H' ∧ AAnyI P G q ops rs md K fuel (listed.setIfInBounds i true) (putA a o.dst r) H'
def lexI (q : Operand → Bool) (rs : List (Nat × Nat)) (md : Region.Mode) (ops : Array Oper) (T : Nat) : Nat → Nat → Array Bool → Bool
 | 0, _, listed => (Region.ready md ops listed).isEmpty
 | n + 1, k, listed => decide (k < 256) && (Region.ready md ops listed).contains k &&
   ((List.range ops.size).all fun j => j == k || listed.getD j true || T.testBit (j * 256 + k) ||
    (match ops[k]?, ops[j]? with|some ok, some oj => (swaps q ok.op oj.op || (rFlag rs ok || rFlag rs oj)) && ok.apart ops oj|_, _ => false)) &&
   lexI q rs md ops T n (k + 1) (listed.setIfInBounds k true)
def orderOkI (q : Operand → Bool) (rs : List (Nat × Nat)) (ops : List Oper) : Bool :=
 match ancT .any ops 0 0 with
 | 0 => lexI q rs .any ops.toArray 0 ops.length 0 (Array.replicate ops.length false)
 | n + 1 => lexI q rs .any ops.toArray (n + 1) ops.length 0 (Array.replicate ops.length false)
def ChainI (P : Program) (G : Glob) (q : Operand → Bool) (ops : List Oper) (rs : List (Nat × Nat)) (K : List AV → List Blk → Prop) : List Oper → List AV → List Blk → Prop
 | [], a, H => K a H
 | o :: rest, a, H => ∃ r H', DStepI P G q ops rs o a H r H' ∧ ChainI P G q ops rs K rest (putA a o.dst r) H'
def immC (rs : List (Nat × Nat)) (a : List AV) : Prop := ∀ x ∈ rs, topB (getA a x.2).strip = none
end
section
variable {P : Program} {G : Glob} {ρ : Bool} {n0 : Nat} {Q : Post} {a : List AV} {H : List Blk}
end
def immB : List (Nat × Nat) → (Nat → AV) → Bool
 | [], _ => true
 | (_, x) :: rs, s => (topB (s x).strip).isNone && immB rs s
def immQ (rs : List (Nat × Nat)) (Q : PostS) : PostS := fun e s H => Q e s H ∧ immB rs s = true
section
variable {ρ : Bool} {P : Program} {G : Glob} {n0 n : Nat} {body : Code} {p : List Nat} {Q : PostS} {B : Prop} {s : Nat → AV} {H : List Blk} {dr : Operand → Bool}
def drawOkI (dr : Operand → Bool) (rs : List (Nat × Nat)) (ops : List Oper) : Bool := orderOkI dr rs ops && lateOk rs [] ops
theorem out_imm {rs : List (Nat × Nat)} (h : Out Q .normal (B ∧ immB rs s = true) s H) : Out (immQ rs Q) .normal B s H := ⟨h.1.1, h.2, h.1.2⟩
end
attribute [push_cast] immB
end Go.V
namespace Go.V
abbrev oh_ := @out_imm
end Go.V
set_option linter.unusedVariables false
set_option linter.unusedSimpArgs false
set_option autoImplicit false
namespace Go.V
open Go Go.RowKit
end Go.V
set_option linter.unusedVariables false
set_option linter.unusedSimpArgs false
set_option autoImplicit false
namespace Go.V
open Go Go.RowKit
section
variable {P : Program} {b : Frame} {a : Act} {k : List Item} {cs : List Frame} {w : World}
theorem stepR_scope {c : Code} : step P (lone (b.atR a (.code (.scope c) :: k)) cs w) = .next (lone (b.atR a (.code c :: .inScope c :: k)) cs w) :=
 step_lone_go (by simp [stepG, stepG.exec, Frame.atR])
theorem stepR_inScope {c : Code} : step P (lone (b.atR a (.inScope c :: k)) cs w) = .next (lone (b.atR a k) cs w) :=
 step_lone_go (by simp [stepG, stepG.exec, Frame.atR])
end
theorem wpIn_scope {F : Fence} {n : Nat} {P : Program} {Q : Exit → Act → World → Prop} {a : Act} {w : World} {c : Code} (h : c.wpIn F n P (Exit.noGoto Q) a w) : (Code.scope c).wpIn F n P Q a w := by
 intro b k cs hro hb hr
 have h0 : (lone (b.atR a (.code (.scope c) :: k)) cs w).fenced P F := fenced_calm hb hr rfl
 obtain ⟨e, a₁, w₁, hq, harr⟩ := h b (.inScope c :: k) cs hro hb hr
 cases e with
 | normal => exact ⟨.normal, a₁, w₁, hq, .head h0 stepR_scope (StepsIn.trans harr (.one (fenced_calm hb hr rfl) stepR_inScope))⟩
 | exit id =>
  have hx : exitTo id (.inScope c :: k) = exitTo id k := by simp [exitTo]
  exact ⟨_, a₁, w₁, hq, fun k' hk => .head h0 stepR_scope (harr.1 k' (by rw [hx]; exact hk)),
   fun hr' hk => let ⟨k₁, h1, h2⟩ := harr.2 hr' (by rw [hx]; exact hk); ⟨k₁, h1, .head h0 stepR_scope h2⟩⟩
 | goto l => exact hq.elim
 | ret => exact ⟨_, a₁, w₁, hq, .of_steps (.one h0 stepR_scope) harr⟩
 | panic ch => exact ⟨_, a₁, w₁, hq, .of_steps (.one h0 stepR_scope) harr⟩
 | outgrown => exact ⟨_, a₁, w₁, hq, .of_steps (.one h0 stepR_scope) harr⟩
def noGotoA (Q : Post) : Post
 | .goto _, _, _ => False
 | e, a, H => Q e a H
def noGotoS (Q : PostS) : PostS
 | .goto _, _, _ => False
 | e, s, H => Q e s H
section
variable {ρ : Bool} {P : Program} {G : Glob} {n0 n : Nat} {H : List Blk}
theorem awp_scope {Q : Post} {a : List AV} {c : Code} (h : AWp ρ P G n0 c (noGotoA Q) a H) : AWp ρ P G n0 (.scope c) Q a H := fun ro S act hr h1 h2 h3 h4 =>
 wpIn_scope (wpIn_mono (h ro S act hr h1 h2 h3 h4) fun e act' w' he => by
  cases e with
  | goto l =>
   obtain ⟨a', H', S', _, q, _⟩ := he
   exact q.elim
  | _ => exact he)
variable {body : Code} {p : List Nat} {Q : PostS} {B : Prop} {s : Nat → AV}
theorem liftQ_noGoto (n : Nat) (Q : PostS) : liftQ n (noGotoS Q) = noGotoA (liftQ n Q) := by
 funext e a H
 cases e with
 | goto l => simp [liftQ, noGotoS, noGotoA]
 | _ => rfl
def isScope : Code → Bool
 | .scope _ => true
 | _ => false
def isLabel : Code → Bool
 | .label _ => true
 | _ => false
theorem go_scope (hs : isScope (atR body p) = true) (h : Go ρ P G n0 n body (0 :: p) (noGotoS Q) B s H) : Go ρ P G n0 n body p Q B s H := by
 refine ⟨h.1, ?_⟩
 have h2 := h.2
 unfold At at h2 ⊢
 simp only [atR] at h2
 rw [liftQ_noGoto] at h2
 generalize atR body p = c at *
 cases c with
 | scope c => exact awp_scope h2
 | _ => cases hs
theorem go_label (hs : isLabel (atR body p) = true) (h : Out Q .normal B s H) : Go ρ P G n0 n body p Q B s H := by
 refine ⟨h.1, ?_⟩
 unfold At
 generalize atR body p = c at *
 cases c with
 | label l => exact awp_label ⟨_, rfl, h.2⟩
 | _ => cases hs
theorem out_scope (h : Out Q .normal B s H) : Out (noGotoS Q) .normal B s H := ⟨h.1, h.2⟩
theorem out_scope_ret (h : Out Q .ret B s H) : Out (noGotoS Q) .ret B s H := ⟨h.1, h.2⟩
theorem out_scope_exit {id : Nat} (h : Out Q (.exit id) B s H) : Out (noGotoS Q) (.exit id) B s H := ⟨h.1, h.2⟩
end
abbrev ga_ := @go_scope
abbrev gb_ := @go_label
abbrev oi_ := @out_scope
abbrev oj_ := @out_scope_ret
abbrev ok_ := @out_scope_exit
end Go.V
