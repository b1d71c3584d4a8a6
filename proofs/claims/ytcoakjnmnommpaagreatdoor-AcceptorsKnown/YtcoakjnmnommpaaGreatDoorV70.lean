import Derived.Test.YtcoakjnmnommpaaGreatDoorV51
import Derived.Test.YtcoakjnmnommpaaGreatDoorV37
import Derived.Test.YtcoakjnmnommpaaGreatDoorV33
import Derived.Test.YtcoakjnmnommpaaGreatDoorV29
import Derived.Lib.SmallJoins
set_option linter.unusedVariables false
set_option linter.unusedSimpArgs false
namespace Go.V
open Go Go.RowKit
def St.glue (S S' : St) (n : Nat) : St := { S' with μ := fun b => if b < n then S'.μ b else S.μ b, ν := fun b => if b < n then S'.ν b else S.ν b }
section
variable {P : Program} {G : Glob}
theorem vci9 {S S' : St} {H H' E : List Blk} (hok : S.Ok (H ++ E)) (hok' : S'.Ok H') (hext : Ext H.length S H S' H') (hl : H'.length = H.length) :
  (S.glue S' H.length).Ok (H' ++ E) ∧ Ext (H ++ E).length S (H ++ E) (S.glue S' H.length) (H' ++ E) ∧ (S'.env H').le ((S.glue S' H.length).env (H' ++ E)) := by
 generalize hn : H.length = n at *;have g1 : ∀ b, b < n → (H' ++ E)[b]? = H'[b]? := fun b hb => l'd (by omega);have g1' : ∀ b, b < n → (H ++ E)[b]? = H[b]? := fun b hb => l'd (by omega);have g2 : ∀ b, ¬ b < n → (H' ++ E)[b]? = (H ++ E)[b]? := fun b hb => by rw [l'r (by omega), l'r (by omega), hl, hn]
 have m1 : ∀ b, b < n → (S.glue S' n).μ b = S'.μ b := fun b hb => if_pos hb;have m2 : ∀ b, ¬ b < n → (S.glue S' n).μ b = S.μ b := fun b hb => if_neg hb;have v1 : ∀ b, b < n → (S.glue S' n).ν b = S'.ν b := fun b hb => if_pos hb;have v2 : ∀ b, ¬ b < n → (S.glue S' n).ν b = S.ν b := fun b hb => if_neg hb;have a1 : ∀ b, b < n → (S.glue S' n).at (H' ++ E) b = S'.at H' b := fun b hb => by simp only [St.at, g1 b hb, m1 b hb, v1 b hb]
 have a1' : ∀ b, b < n → S.at (H ++ E) b = S.at H b := fun b hb => by simp only [St.at, g1' b hb]
 have a2 : ∀ b, ¬ b < n → (S.glue S' n).at (H' ++ E) b = S.at (H ++ E) b := fun b hb => by simp only [St.at, g2 b hb, m2 b hb, v2 b hb]
 have alt : ∀ b g, S.at H b = some g → b < n := fun b g q => by
  by_cases hb : b < n
  ·exact hb
  ·rw [St.at, l'I (by omega)] at q; cases q
 have ownH : ∀ k, S.Owns H k → S.Owns (H ++ E) k := fun k ⟨b, hb⟩ => ⟨b, by rw [a1' b (alt b k hb)]; exact hb⟩;have sh1 : ∀ b, b < n → shOf (H' ++ E) b = shOf H' b := fun b hb => by simp only [shOf, g1 b hb]
 have sh1' : ∀ b, b < n → shOf (H ++ E) b = shOf H b := fun b hb => by simp only [shOf, g1' b hb]
 have sh2 : ∀ b, ¬ b < n → shOf (H' ++ E) b = shOf (H ++ E) b := fun b hb => by simp only [shOf, g2 b hb]
 have mp1 : ∀ b, b < n → mpOf (S.glue S' n).ν (H' ++ E) b = mpOf S'.ν H' b := fun b hb => by simp only [mpOf, g1 b hb, v1 b hb]
 have mp1' : ∀ b, b < n → mpOf S.ν (H ++ E) b = mpOf S.ν H b := fun b hb => by simp only [mpOf, g1' b hb]
 have mp2 : ∀ b, ¬ b < n → mpOf (S.glue S' n).ν (H' ++ E) b = mpOf S.ν (H ++ E) b := fun b hb => by simp only [mpOf, g2 b hb, v2 b hb]
 have hsh : ∀ b s cur, shOf (H ++ E) b = some (s, cur) → ∃ cur', cur ≤ cur' ∧ shOf (H' ++ E) b = some (s, cur') ∧ (cur' = cur → (S.glue S' n).μ b = S.μ b) := fun b s cur hs => by
  by_cases hb : b < n
  ·rw [sh1' b hb] at hs;obtain ⟨c, q1, q2, q3⟩ := hext.sh b s cur hb hs;exact ⟨c, q1, by rw [sh1 b hb]; exact q2, fun q => by rw [m1 b hb]; exact q3 q⟩
  ·exact ⟨cur, l'f _, by rw [sh2 b hb]; exact hs, fun _ => m2 b hb⟩
 have hmp : ∀ b g, mpOf S.ν (H ++ E) b = some g → mpOf (S.glue S' n).ν (H' ++ E) b = some g := fun b g hs => by
  by_cases hb : b < n
  ·rw [mp1' b hb] at hs;rw [mp1 b hb]; exact hext.ν b g hb hs
  ·rw [mp2 b hb]; exact hs
 have le1 : (S.env (H ++ E)).le ((S.glue S' n).env (H' ++ E)) := ⟨hext.M, hsh, hmp⟩;have le2 : (S'.env H').le ((S.glue S' n).env (H' ++ E)) := ⟨fun _ _ q => q, fun b s cur hs => by
   have hb : b < n := by have := wbc9 hs; omega
   exact ⟨cur, l'f _, (sh1 b hb).trans hs, fun _ => m1 b hb⟩, fun b g hs => by
   have hb : b < n := by have := vbc9 hs; omega
   exact (mp1 b hb).trans hs⟩
 have hfree : ∀ b g, ¬ b < n → S.at (H ++ E) b = some g → ¬ S.Owns H g := fun b g hb hg ⟨b', hb'⟩ => by
  have q := alt b' g hb';have := hok.inj b b' g hg (by rw [a1' b' q]; exact hb');omega
 have hkeep : ∀ b g o, ¬ b < n → S.at (H ++ E) b = some g → S.M g = none → S.w.heap[g]? = some o → S'.M g = none ∧ S'.w.heap[g]? = some o := fun b g o hb hg hM ho => by
  have hlt : g < S.w.heap.size := (l'l.1 ho).1;have hno := hfree b g hb hg;refine ⟨?_, (hext.keep g hlt hno).trans ho⟩;cases hM' : S'.M g with
  | none => rfl
  | some o' =>
   rcases hext.dom g (by rw [hM']; simp) with q|q|q
   ·exact absurd hM q
   ·exact absurd q hno
   ·omega
 refine ⟨⟨hok'.imm, fun b s t es hbb => ?_, fun b x hbb => ?_, fun b b' g q q' => ?_⟩, ⟨hext.os, hext.tape, hext.output, hext.size, fun k hk hno => hext.keep k hk fun q => hno (ownH k q), hext.M, fun k hk => ?_, fun k hk => ?_, fun b s cur _ hs => hsh b s cur hs, fun b g _ hs => hmp b g hs, fun _ => by simp [hl, hn]⟩, le2⟩
 ·by_cases hb : b < n
  ·rw [g1 b hb] at hbb;rcases hok'.row b s t es hbb with q|⟨g, k, cs, h1, h2, h3, h4, h5, h6, h7⟩
   ·exact .inl ⟨by rw [m1 b hb]; exact q.1, q.2⟩
   ·exact .inr ⟨g, k, cs, by rw [m1 b hb]; exact h1, h2, h3, h4, h5, h6, h7.mono le2⟩
  ·rw [g2 b hb] at hbb;rcases hok.row b s t es hbb with q|⟨g, k, cs, h1, h2, h3, h4, h5, h6, h7⟩
   ·exact .inl ⟨by rw [m2 b hb]; exact q.1, q.2⟩
   ·have hat : S.at (H ++ E) b = some g := by simp [St.at, hbb, h1]
    obtain ⟨k1, k2⟩ := hkeep b g _ hb hat h2 h3;exact .inr ⟨g, k, cs, by rw [m2 b hb]; exact h1, k1, k2, h4, h5, h6, h7.mono le1⟩
 ·by_cases hb : b < n
  ·rw [g1 b hb] at hbb;obtain ⟨g, o, h1, h2, h3, h4⟩ := hok'.ob b x hbb;exact ⟨g, o, by rw [v1 b hb]; exact h1, h2, h3, h4.mono le2⟩
  ·rw [g2 b hb] at hbb;obtain ⟨g, o, h1, h2, h3, h4⟩ := hok.ob b x hbb;have hat : S.at (H ++ E) b = some g := by simp [St.at, hbb, h1]
   obtain ⟨k1, k2⟩ := hkeep b g _ hb hat h2 h3;exact ⟨g, o, by rw [v2 b hb]; exact h1, k1, k2, h4.mono le1⟩
 ·by_cases hb : b < n
  ·by_cases hb' : b' < n
   ·rw [a1 b hb] at q; rw [a1 b' hb'] at q';exact hok'.inj b b' g q q'
   ·rw [a1 b hb] at q; rw [a2 b' hb'] at q';exfalso;rcases hext.own g ⟨b, q⟩ with w|w
    ·exact hfree b' g hb' q' w
    ·have : g < S.w.heap.size := by
      unfold St.at at q';split at q'
      ·rename_i s t es he;rcases hok.row b' s t es he with z|⟨g', k, cs, h1, h2, h3, _⟩
       ·rw [z.1] at q'; cases q'
       ·rw [h1] at q'; injection q' with q'; subst q'
        exact (l'l.1 h3).1
      ·rename_i x he;obtain ⟨g', o, h1, h2, h3, _⟩ := hok.ob b' x he;rw [h1] at q'; injection q' with q'; subst q'
       exact (l'l.1 h3).1
      ·cases q'
     omega
  ·by_cases hb' : b' < n
   ·rw [a2 b hb] at q; rw [a1 b' hb'] at q';exfalso;rcases hext.own g ⟨b', q'⟩ with w|w
    ·exact hfree b g hb q w
    ·have : g < S.w.heap.size := by
      unfold St.at at q;split at q
      ·rename_i s t es he;rcases hok.row b s t es he with z|⟨g', k, cs, h1, h2, h3, _⟩
       ·rw [z.1] at q; cases q
       ·rw [h1] at q; injection q with q; subst q
        exact (l'l.1 h3).1
      ·rename_i x he;obtain ⟨g', o, h1, h2, h3, _⟩ := hok.ob b x he;rw [h1] at q; injection q with q; subst q
       exact (l'l.1 h3).1
      ·cases q
     omega
   ·rw [a2 b hb] at q; rw [a2 b' hb'] at q';exact hok.inj b b' g q q'
 ·rcases hext.dom k hk with q|q|q
  ·exact .inl q
  ·exact .inr (.inl (ownH k q))
  ·exact .inr (.inr q)
 ·obtain ⟨b, hb'⟩ := hk;by_cases hb : b < n
  ·rw [a1 b hb] at hb';rcases hext.own k ⟨b, hb'⟩ with q|q
   ·exact .inl (ownH k q)
   ·exact .inr q
  ·rw [a2 b hb] at hb';exact .inl ⟨b, hb'⟩
theorem kaH9 (H E : List Blk) : (H ++ E).take H.length = H := by simp
theorem qbS9 {f : FuncId} {args : List AV} {H H' : List Blk} {r : AV} (h : wd0 P G f args H r H') (E : List Blk) (hl : H'.length = H.length) (hids : idsL (fun b => decide (b < H.length)) args = true) (hb : H.all (Blk.below H.length) = true) : wd0 P G f args (H ++ E) r (H' ++ E) := by
 intro S vals hok hG ha;have hle : H.length ≤ (H ++ E).length := by simp
 obtain ⟨hokH, _⟩ := vaE9 (n0 := H.length) hok (l'f _) hle (by rw [kaH9]; exact hb);rw [kaH9] at hokH;have hag := zbf9 (m := H.length) S (H ++ E);rw [kaH9] at hag;have ha' := RelL.move hag _ _ hids ha;refine (h S vals hokH hG ha').mono fun e w' ⟨v, S', he, hw, hok', hext, hr⟩ => ?_;obtain ⟨q1, q2, q3⟩ := vci9 hok hok' hext hl;exact ⟨v, S.glue S' H.length, he, hw, q1, q2, Rel.mono q3 _ _ hr⟩
end
end Go.V
namespace Go.V
open Go Go.RowKit Go.Lib
abbrev Kd := List UInt8 × Bool × Bool × Bool
def xeE9 {H : Type} (zs : List Kd) : DataW H := .agg (zs.map fun z => .agg [.lit (.string z.1), .lit (.bool z.2.1), .lit (.bool z.2.2.1), .lit (.bool z.2.2.2)])
def ves9 (z : Kd) : List Value := [.string ⟨z.1.toArray⟩, .bool z.2.1, .bool z.2.2.1, .bool z.2.2.2]
section
variable {H : Type} {enc : TypeId × Value → H} {P : Program} {w : World} {base : Nat} {sp : Nat → Bool} {held : Bool}
end
end Go.V
set_option autoImplicit false
namespace Go.V
open Go Go.RowKit
def pcQ : Operand → Bool
 | .global 5 => false
 | _ => true
def wcD9 (P : Program) (G : Glob) (f : AV) (args : List AV) (K : AV → Prop) : Prop :=
 match f.strip with
 | .fn g cap => f.ok = true ∧ ka0 P g = true ∧ (args.all AV.ok) = true ∧ ∃ r, (idsL waw9 (args.map AV.strip ++ cap) = true ∧ PC P G g (args.map AV.strip ++ cap) r) ∧ K r
 | _ => False
section
variable {ρ : Bool} {P : Program} {G : Glob} {n0 n : Nat} {dr : Operand → Bool} {body : Code} {p : List Nat} {Q : xl0} {k : Nat} {B : Prop} {s : Nat → AV} {H : List Blk} {d : Option Tmp} {ty : TypeId} {pos : String} {af : Array Edge}
theorem vcD9 {f : Operand} {args : Array Operand} {ts : Array TypeId} (h : (vj0 (atR body p))[k]? = some ⟨d, .call ⟨.value f, args, ts⟩, ty, pos, af, none⟩) (hpc : pcF dr = true) (hkp : kpF dr = false) (hdr : dr f = true)
  (hk : B ∧ wcD9 P G (evS G n s f) (args.toList.map (evS G n s)) (fun r => Acc ρ P G n0 n dr body p Q (k + 1) True (put s d r) H)) : Acc ρ P G n0 n dr body p Q k B s H := by
 refine ⟨hk.1, ?_⟩;have h2 := hk.2;rw [xI0 h];show xaw9 P G (dr f) (ev G (Lst n s) f) (args.toList.map (ev G (Lst n s))) H _;unfold wcD9 at h2;split at h2
 ·rename_i g cap hf;obtain ⟨q1, q2, q3, r, ⟨q4, q5⟩, q6⟩ := h2;have hops : ∀ H2, zz0 P G (.call ⟨.value f, args, ts⟩) (ev G (Lst n s)) H2 r H2 := fun H2 =>
   .call _ f g cap rfl rfl (by rw [vq0]; exact hf) (by rw [vq0]; exact q1) q2 (by rw [vq0]; simpa [z't] using q3) r H2 (by rw [vq0]; have := kbD9 q5 q4 H2; rw [n'k] at this; exact this)
  unfold xaw9;rw [vq0, hf];simp only;refine ⟨q1, q2, q3, ?_⟩;rw [if_pos hdr];refine ⟨r, kbD9 q5 q4 H, fun w => (by rw [hkp] at w; cases w), fun _ => by rw [← vq0]; exact hops, ?_⟩;show tops _ _ _ _ _ _ (putA (Lst n s) d r) _;rw [ks0]; exact q6.2
 ·exact h2.elim
end
abbrev ap_ := @vcD9
attribute [push_cast] wcD9
theorem nav {g s : Prop} (k : s) (h : s → g := by
  refine fun h => ?_;first
   | (refine a0_ ?_; first|exact a1_ rfl rfl h|exact a2_ rfl h|exact a3_ rfl rfl h|exact a4_ rfl h|exact ak_ rfl rfl h|exact ap_ rfl rfl rfl rfl h|exact a5_ rfl rfl rfl h|exact a6_ rfl rfl h|exact a7_ rfl rfl h|exact a8_ rfl rfl h|exact a9_ rfl rfl rfl h)
   | (refine g0_ ?_; first|exact g1_ rfl h|exact g2_ rfl rfl h|exact g4_ rfl h|exact g5_ rfl h|exact g6_ rfl h|exact g7_ rfl h|exact g8_ rfl h|exact vbh9 rfl h|exact kbh9 rfl h)
   | (refine o0_ ?_; first|exact o1_ h|exact o2_ h|exact o3_ h|exact o4_ h|exact o5_ h|exact o6_ rfl h|exact o7_ rfl h|exact o8_ h|exact o9_ h|exact oa_ h|exact ob_ h|exact oc_ h|exact od_ h|exact oe_ h|exact of_ h|exact og_ h|exact oh_ h|exact waH9 h|exact qO0 h|exact wI0 h)
   | exact kcx9 h) : g := h k
theorem andG {a b : Prop} (k : b) (h : a := by first|omega|(simp only [maxLen]; omega)) : a ∧ b := ⟨h, k⟩
section
variable {ρ ρ' : Bool} {P P' : Program} {G G' : Glob} {n0 n0' n n' : Nat} {body body' : Code} {p p' : List Nat} {Q Q' : xl0} {B : Prop} {s s' : Nat → AV} {H H' : List Blk}
theorem goD (h : Acc ρ P G n0 n allQ body p Q 0 B s H) (hs : vX0 (atR body p) = true := by rfl) (hd : waT9 (atR body p) = true := by rfl) (hm : P.follows .mixedOrders = true := by exact mixed) (ho : waE9 allQ (vj0 (atR body p)) = true := by first|assumption|kernel_rfl) : Go ρ P G n0 n body p Q B s H := kaE9 (dr := allQ) hs hd hm ho h
theorem dN (rs : List (Nat × Nat)) (es : List (Nat × Option Nat)) (dl : List (Nat × Nat)) (h : Acc ρ P G n0 n allQ body p (wdM9 rs es Q) 0 B s H) (hs : vX0 (atR body p) = true := by rfl) (hd : waT9 (atR body p) = true := by rfl) (hm : P.follows .mixedOrders = true := by exact mixed) (ho : wbH9 P allQ rs es dl (vj0 (atR body p)) = true := by kernel_rfl) (hlen : (es.all fun y => decide (y.1 < n)) = true := by rfl) : Go ρ P G n0 n body p Q B s H := xt0 (dr := allQ) rs es dl hs hd hm ho h rfl hlen
theorem gG (h1 : Go ρ P G n0 n body p Q True s H) (h2 : Go ρ' P' G' n0' n' body' p' Q' True s' H') : At ρ P G n0 n body p Q s H ∧ At ρ' P' G' n0' n' body' p' Q' s' H' := ⟨h1.2, h2.2⟩
theorem nv {g t : Prop} (k : t) (h : t → g := by
  refine fun h => ?_;first
   | (refine a0_ ?_; first|exact a1_ rfl rfl h|exact a2_ rfl h|exact a3_ rfl rfl h|exact a4_ rfl h|exact ak_ rfl rfl h|exact a5_ rfl rfl rfl h|exact a6_ rfl rfl h|exact a7_ rfl rfl h|exact a8_ rfl rfl h|exact a9_ rfl rfl rfl h)
   | (refine g0_ ?_; first|exact g1_ rfl h|exact g2_ rfl rfl h|exact g4_ rfl h|exact g5_ rfl h|exact g6_ rfl h|exact g7_ rfl h|exact g8_ rfl h|exact vbh9 rfl h|exact kbh9 rfl h|exact goD h)
   | (refine o0_ ?_; first|exact o1_ h|exact o2_ h|exact o3_ h|exact o4_ h|exact o5_ h|exact o6_ rfl h|exact o7_ rfl h|exact o8_ h|exact o9_ h|exact oa_ h|exact ob_ h|exact oc_ h|exact od_ h|exact oe_ h|exact of_ h|exact og_ h|exact oh_ h|exact waH9 h|exact qO0 h|exact wI0 h)
   | exact kcx9 h) : g := h k
theorem cl_ {A g t : Prop} (c : A) (k : t) (h : A → t → g := by
  refine fun c h => ?_;first|exact ⟨_, _, c, h⟩|exact ⟨_, c, h⟩|exact ⟨_, fun _ => c, h⟩) : g := h c k
theorem cp_ {f : FuncId} {as : List AV} {r : AV} {g t : Prop} (c : PC P G f as r) (k : t) (h : (∀ H, wd0 P G f as H r H) → t → g := by
  refine fun c h => ?_;first|exact ⟨_, _, c _, h⟩|exact ⟨_, c _, h⟩|exact ⟨_, fun _ => c _, h⟩) (hi : idsL waw9 as = true := by simp [idsL, idsE, AV.ids]) : g := h (kbD9 c hi) k
end
end Go.V
set_option maxHeartbeats 0
namespace Go.V
open Go
mutual
def nz : AV → AV
 | .sl s es c => .sl (if es.isEmpty then 0 else s) (nzE es) c
 | .agg cs => .agg (nzL cs)
 | .tup cs => .tup (nzL cs)
 | .iptr cs o => .iptr (nzL cs) o
 | .int k n => .int k n
 | .bool b => .bool b
 | .str s => .str s
 | .own b n h c => .own b n h c
 | .ptr b i o h => .ptr b i o h
 | .fn f cap => .fn f cap
 | .bnd f cap => .bnd f cap
 | .mp b => .mp b
 | .sub b i n h => .sub b i n h
 | .opt g w => .opt g w
 | .lit u => .lit u
 | .anyb => .anyb
 | .anyi k => .anyi k
 | .err => .err
 | .top => .top
 | .yld b => .yld b
def nzL : List AV → List AV
 | [] => []
 | a :: as => nz a :: nzL as
def nzE : List (List AV) → List (List AV)
 | [] => []
 | e :: es => nzL e :: nzE es
end
theorem waV9 : ∀ l : List AV, (nzL l).length = l.length
 | [] => rfl
 | _ :: l => by rw [nzL, List.length_cons, List.length_cons, waV9 l]
theorem vaV9 : ∀ l : List (List AV), (nzE l).length = l.length
 | [] => rfl
 | _ :: l => by rw [nzE, List.length_cons, List.length_cons, vaV9 l]
theorem xdN9 (l : List (List AV)) : nzE l = [] ↔ l = [] := by
 cases l with
 | nil => simp [nzE]
 | cons _ _ => simp [nzE]
mutual
theorem zbS9 {E : Env} : ∀ (a : AV) (v : Value), Rel E (nz a) v ↔ Rel E a v
 | .sl s es c, v => by
  rw [nz];cases es with
  | nil => simp [Rel, nzE]
  | cons e es =>
   have h := fun g off => kcD9 (E := E) s (e :: es) g off;simp only [Rel, vaV9, xdN9, List.isEmpty_cons, l'Y, if_false, h]
 | .agg cs, v => by
  have h := fun vs => qaI9 (E := E) cs vs;simp only [nz, Rel, h]
 | .tup cs, v => by
  have h := fun vs => qaI9 (E := E) cs vs;simp only [nz, Rel, h]
 | .iptr cs o, v => by
  have h := fun g off => wbI9 (E := E) cs g off;simp only [nz, Rel, h]
 | .int k n, v => by rw [nz]
 | .bool b, v => by rw [nz]
 | .str s, v => by rw [nz]
 | .own b n h c, v => by rw [nz]
 | .ptr b i o h, v => by rw [nz]
 | .fn f cap, v => by rw [nz]
 | .bnd f cap, v => by rw [nz]
 | .mp b, v => by rw [nz]
 | .sub b i n h, v => by rw [nz]
 | .opt g w, v => by rw [nz]
 | .lit u, v => by rw [nz]
 | .anyb, v => by rw [nz]
 | .anyi k, v => by rw [nz]
 | .err, v => by rw [nz]
 | .top, v => by rw [nz]
 | .yld b, v => by rw [nz]
theorem qaI9 {E : Env} : ∀ (l : List AV) (vs : List Value), RelL E (nzL l) vs ↔ RelL E l vs
 | [], vs => by rw [nzL]
 | a :: as, vs => by
  have h1 := fun u => zbS9 (E := E) a u;have h2 := fun us => qaI9 (E := E) as us;simp only [nzL, RelL, h1, h2]
theorem wbI9 {E : Env} : ∀ (l : List AV) (g off : Nat), RelC E (nzL l) g off ↔ RelC E l g off
 | [], g, off => by rw [nzL]
 | a :: as, g, off => by
  have h1 := fun u => zbS9 (E := E) a u;have h2 := fun g off => wbI9 (E := E) as g off;simp only [nzL, RelC, h1, h2]
theorem kcD9 {E : Env} (s : Nat) : ∀ (l : List (List AV)) (g off : Nat), RelE E s (nzE l) g off ↔ RelE E s l g off
 | [], g, off => by rw [nzE]
 | e :: es, g, off => by
  have h1 := fun g off => wbI9 (E := E) e g off;have h2 := fun g off => kcD9 (E := E) s es g off;simp only [nzE, RelE, waV9, h1, h2]
end
theorem wdN9 {P : Program} {G : Glob} {f : FuncId} {args : List AV} {r r' : AV} (h : PC P G f args r) (he : nz r = nz r') : PC P G f args r' := fun S vals hok hG ha =>
 (h S vals hok hG ha).mono fun e w' ⟨v, S', h1, h2, h3, h4, h5⟩ => ⟨v, S', h1, h2, h3, h4, by rw [← zbS9, ← he, zbS9]; exact h5⟩
theorem xbS9 {P : Program} {G : Glob} {f : FuncId} {args args' : List AV} {r : AV} (h : PC P G f args' r) (he : nzL args = nzL args') : PC P G f args r := fun S vals hok hG ha =>
 h S vals hok hG (by rw [← qaI9, ← he, qaI9]; exact ha)
def ownQ (fs : List Nat) : Operand → Bool
 | .func f => !fs.contains f
 | .global 3 => false
 | _ => true
section
variable {ρ : Bool} {P : Program} {G : Glob} {n0 n : Nat} {body : Code} {p : List Nat} {Q : xl0} {B : Prop} {s : Nat → AV} {H : List Blk} {dr : Operand → Bool} {k : Nat} {d : Option Nat}
theorem qcE9 (fs : List Nat) (hs : vX0 (atR body p) = true) (hd : waT9 (atR body p) = false) (h : Acc ρ P G n0 n (ownQ fs) body p Q 0 B s H) : Go ρ P G n0 n body p Q B s H := by
 refine ⟨h.1, ?_⟩;have h2 := h.2;unfold At;generalize atR body p = c at hs h2 hd;cases c with
 | region id ops d =>
  cases hd
  simp only [vj0, List.drop_zero] at h2;exact qaT9 (ops := ops.toList) h2
 | _ => cases hs
theorem vbI9 {t : TypeId} {len : Nat} {ps : Array (Nat × Operand)} {ty pos af} {fs : List Nat} (h : (vj0 (atR body p))[k]? = some ⟨d, .buildSlice t len ps, ty, pos, af, none⟩)
  (hk : Acc ρ P G n0 n (ownQ fs) body p Q (k + 1) (B ∧ (kS0 P (.buildSlice t len ps) (evS G n s) H).1 = true) (put s d (kS0 P (.buildSlice t len ps) (evS G n s) H).2.1) (kS0 P (.buildSlice t len ps) (evS G n s) H).2.2) : Acc ρ P G n0 n (ownQ fs) body p Q k B s H := by
 obtain ⟨⟨h1, h2⟩, h3⟩ := hk;refine ⟨h1, ?_⟩;rw [xI0 h];have e : ev G (Lst n s) = evS G n s := vq0 G n s;have key : opK P G (ownQ fs) (.buildSlice t len ps) (ev G (Lst n s)) H (fun r H' => tops P G (ownQ fs) (vj0 (atR body p)) (zae9 n Q .normal) ((vj0 (atR body p)).drop (k + 1)) (putA (Lst n s) d r) H') := by
  rw [e];refine .inr ⟨rfl, h2, ?_⟩;have h4 := h3;rw [← ks0] at h4;exact h4
 exact key
end
attribute [push_cast] kS0 bOwn
def atQ : Operand → Bool
 | .global 4 => false
 | _ => true
section
variable {ρ : Bool} {P : Program} {G : Glob} {n0 n : Nat} {body : Code} {p : List Nat} {Q : xl0} {B : Prop} {s : Nat → AV} {H : List Blk} {k : Nat} {d : Option Nat}
theorem wbS9 (b : Nat) {t : TypeId} {l c : Operand} {ty pos af} (h : (vj0 (atR body p))[k]? = some ⟨d, .makeSlice t l c, ty, pos, af, none⟩)
  (hk : Acc ρ P G n0 n atQ body p Q (k + 1) (B ∧ (vI0 P (.makeSlice t l c) (evS G n s) H b).1 = true) (put s d (vI0 P (.makeSlice t l c) (evS G n s) H b).2.1) (vI0 P (.makeSlice t l c) (evS G n s) H b).2.2) : Acc ρ P G n0 n atQ body p Q k B s H := by
 obtain ⟨⟨h1, h2⟩, h3⟩ := hk;refine ⟨h1, ?_⟩;rw [xI0 h];have e : ev G (Lst n s) = evS G n s := vq0 G n s;have key : opK P G atQ (.makeSlice t l c) (ev G (Lst n s)) H (fun r H' => tops P G atQ (vj0 (atR body p)) (zae9 n Q .normal) ((vj0 (atR body p)).drop (k + 1)) (putA (Lst n s) d r) H') := by
  rw [e];have h4 := h3;rw [← ks0] at h4;exact ⟨b, _, _, ⟨h2, rfl, rfl⟩, h4⟩
 exact key
theorem kaV9 {n0 n : Nat} (sz : Nat) (ty : TypeId) {s : Nat → AV} {H : List Blk} : Weak n0 (Lst n s) H (Lst n s) (H ++ [.row sz ty []]) := fun S vs hok hn ha => by
 have hext := zbg9 hok sz ty;exact ⟨S.nil H.length, rfl, vcz9 hok sz ty, hext.less hn (l'f _), ha.mono (hext.le (l'f _))⟩
end
attribute [push_cast] vI0 xC0 qdF9 zdF9 xdb9 xdF9
def kJ0 (p A q : Nat) (s : Nat) : List (List AV) := qj0 (fun a => if s * A + a < q then .own (s * A + a + p) 0 0 none else .sl 0 [] (some 0)) A
theorem kci9 (p A s : Nat) : kJ0 p A 0 s = List.replicate A [.sl 0 [] (some 0)] := by
 rw [wz0, kJ0];exact xf0 fun a _ => by rw [if_neg (by omega)]
theorem zcE9 {p A N s : Nat} (h : s < N) : kJ0 p A (N * A) s = qj0 (fun a => .own (s * A + a + p) 0 0 none) A := by
 rw [kJ0];refine xf0 fun a ha => ?_;have : s * A + a < N * A := by
  have := l'J A (show s + 1 ≤ N from h);rw [l'O, Nat.one_mul] at this; omega
 rw [if_pos this]
theorem qal9 {n0 n : Nat} (s : Nat → AV) (pre mid : List Blk) (N A : Nat) (z sz : Nat) (t ty : TypeId) {p : Nat} (hp : p = pre.length + N + mid.length) : ∀ q, q ≤ N * A →
  Weak n0 (Lst n s) (pre ++ (qe0 z t (fun _ => List.replicate A [.sl 0 [] (some 0)]) N ++ mid)) (Lst n s) (pre ++ (qe0 z t (kJ0 p A q) N ++ (mid ++ qe0 sz ty (fun _ => []) q)))
 | 0, _ => by
  have e : qe0 z t (kJ0 p A 0) N = qe0 z t (fun _ => List.replicate A [.sl 0 [] (some 0)]) N := wt0 fun s _ => kci9 p A s;rw [e, vbH9, l'R];exact Weak.refl _ _
 | q + 1, hq => by
  have ih := qal9 (n0 := n0) (n := n) s pre mid N A z sz t ty hp q (by omega);have hA : 0 < A := Nat.pos_of_ne_zero fun h => by subst h; simp at hq
  have hs : q / A < N := (Nat.div_lt_iff_lt_mul hA).2 (by omega);have ha : q % A < A := n'n _ hA;have hqa : q / A * A + q % A = q := by rw [n'U]; exact Nat.div_add_mod q A
  have hl : (pre ++ (qe0 z t (kJ0 p A q) N ++ (mid ++ qe0 sz ty (fun _ => []) q))).length = q + p := by
   simp only [l'v, rf_len]; omega
  have hb : (pre ++ (qe0 z t (kJ0 p A q) N ++ (mid ++ qe0 sz ty (fun _ => []) q)))[pre.length + q / A]? = some (.row z t (kJ0 p A q (q / A))) := by
   rw [l'r (Nat.le_add_right _ _), n'I, xaH9 _ hs]
  have hi : (kJ0 p A q (q / A))[q % A]? = some [.sl 0 [] (some 0)] := by
   rw [kJ0, qj0, l'p, n'e ha];simp only [Option.map_some];rw [if_neg (by omega)]
  have hw := wg0 (n0 := n0) (n := n) (s := s) (sz := sz) (ty := ty) (j := 0) hb hi rfl;refine ih.trans ?_;rw [hl] at hw;have hset : (pre ++ (qe0 z t (kJ0 p A q) N ++ (mid ++ qe0 sz ty (fun _ => []) q))).set (pre.length + q / A) (.row z t ((kJ0 p A q (q / A)).set (q % A) ([AV.sl 0 [] (some 0)].set 0 (.own (q + p) 0 0 none)))) ++ [.row sz ty []] =
    pre ++ (qe0 z t (kJ0 p A (q + 1)) N ++ (mid ++ qe0 sz ty (fun _ => []) (q + 1))) := by
   rw [n'l _ _ (Nat.le_add_right _ _), n'I, xbh9 _ _ hs, l'A, l'A, l'A, kbH9];congr 2
   refine wt0 fun s' hs' => ?_;unfold updF;by_cases e : s' = q / A
   ·rw [if_pos e, e];show (kJ0 p A q (q / A)).set (q % A) [.own (q + p) 0 0 none] = _;rw [kJ0, wJ0, kJ0];refine xf0 fun a ha' => ?_;unfold updF;by_cases e2 : a = q % A
    ·subst e2;rw [if_pos rfl, hqa, if_pos (by omega)]
    ·rw [if_neg e2];have : q / A * A + a < q ↔ q / A * A + a < q + 1 := by omega
     simp only [this]
   ·rw [if_neg e, kJ0, kJ0];refine xf0 fun a ha' => ?_;have hne : s' * A + a ≠ q := fun h => e (by
     rw [← h, n'U, Nat.mul_add_div hA, z'L ha', Nat.add_zero])
    have : s' * A + a < q ↔ s' * A + a < q + 1 := by omega
    simp only [this]
  rw [hset] at hw;exact hw
end Go.V
namespace Go.V
open Go Go.RowKit
def hdA : AV → AV
 | .int k n => .int k n
 | .bool b => .bool b
 | .str s => .str s
 | .anyb => .anyb
 | .anyi k => .anyi k
 | .err => .err
 | .lit u => .lit u
 | .sl _ es c => .sl 0 (es.map fun _ => []) c
 | _ => .top
theorem qbv9 (E : Env) (g : Nat) : ∀ (es : List (List AV)) (off : Nat), RelE E 0 (es.map fun _ => []) g off
 | [], _ => by simp [RelE]
 | e :: es, off => by
  simp only [List.map_cons, RelE, RelC, List.length_nil, true_and];exact qbv9 E g es _
theorem wdz9 {E E' : Env} : ∀ (a : AV) (v : Value), Rel E a v → Rel E' (hdA a) v := fun a v hr => by
 cases a with
 | sl s es c =>
  simp only [hdA, Rel, l'w] at hr ⊢;obtain ⟨a, cap, h0, h1, h2, h3, h4⟩ := hr;refine ⟨a, cap, h0, h1, h2, h3, ?_⟩;rcases h4 with h4|⟨g, off, ha, _⟩
  ·exact .inl (by rw [h4]; rfl)
  ·exact .inr ⟨g, off, ha, qbv9 E' g es off⟩
 | int => simpa [hdA, Rel] using hr
 | bool => simpa [hdA, Rel] using hr
 | str => simpa [hdA, Rel] using hr
 | anyb => simpa [hdA, Rel] using hr
 | anyi => simpa [hdA, Rel] using hr
 | err => simpa [hdA, Rel] using hr
 | lit => simpa [hdA, Rel] using hr
 | _ => simp [hdA, Rel]
def zal9 (H : List Blk) : Nat → AV → AV
 | 0, v => hdA v
 | d + 1, .own b n h c =>
  match H[b]? with
  | some (.row s _ es) => .sl s ((es.take n).map fun e => e.map (zal9 H d)) c
  | _ => .top
 | _ + 1, v => hdA v
def okW (H : List Blk) : Nat → AV → Bool
 | 0, _ => true
 | d + 1, .own b n h _ => zi0 H b h && (match H[b]? with|some (.row _ _ es) => (es.take n).all fun e => e.all (okW H d)|_ => false)
 | _ + 1, _ => true
def xU0 (H : List Blk) (d : Nat) : AV → AV
 | .agg cs => .agg (cs.map (zal9 H d))
 | v => zal9 H d v
def okWA (H : List Blk) (d : Nat) : AV → Bool
 | .agg cs => cs.all (okW H d)
 | v => okW H d v
def wU0 (H : List Blk) (d : Nat) : AV → AV
 | .tup vs => .tup (vs.map (xU0 H d))
 | v => xU0 H d v
def okWR (H : List Blk) (d : Nat) : AV → Bool
 | .tup vs => vs.all (okWA H d)
 | v => okWA H d v
open Classical in
noncomputable def St.newE (S : St) (H : List Blk) : Env := ⟨fun k => if S.Owns H k then S.w.heap[k]? else none, fun _ => none, fun _ => none, fun _ => none⟩
theorem vdj9 {S : St} {H : List Blk} {k : Nat} (h : S.Owns H k) : (S.newE H).M k = S.w.heap[k]? := by
 simp only [St.newE]; rw [if_pos h]
theorem xcE9 {S : St} {H : List Blk} {k : Nat} {o : Obj} (h : (S.newE H).M k = some o) : S.Owns H k ∧ S.w.heap[k]? = some o := by
 simp only [St.newE] at h;split at h
 ·exact ⟨by assumption, h⟩
 ·cases h
theorem zaI9 {S : St} {H : List Blk} (hok : S.Ok H) : ∀ (d : Nat) (v : AV) (u : Value), okW H d v = true → Rel (S.env H) v u → Rel (S.newE H) (zal9 H d v) u
 | 0, v, u, h, hr => wdz9 v u hr
 | d + 1, v, u, h, hr => by
  cases v with
  | own b n hh c =>
   simp only [okW, l'a] at h;cases hb : H[b]? with
   | none => rw [hb] at h; cases h.2
   | some B =>
    cases B with
    | ob _ => rw [hb] at h; cases h.2
    | row s t es =>
     simp only [hb] at h;simp only [zal9, hb];obtain ⟨s', hs, hn, hcase⟩ := xs0 hr h.1;rw [zn0 hb] at hs; injection hs with hs; injection hs with e1 e2; subst e1
     rcases hcase with ⟨_, ⟨a0, rfl⟩, rfl, hc⟩|⟨g, k, cap, hg, rfl, hncap, hcapk, hcn, hcs⟩
     ·simp only [Rel];refine ⟨a0, 0, by simp, by simp, by simp [maxLen], fun k hk => ?_, .inl (by simp)⟩;rcases hc with rfl|rfl
      ·cases hk
      ·injection hk
     ·obtain ⟨g0, k0, cs, q1, q2, q3, q4, q5, q6, q7⟩ := (hok.row b s t es hb).resolve_left (fun q => by rw [q.1] at hg; cases hg);rw [hg] at q1; injection q1 with q1; injection q1 with e1 e3; subst e1; subst e3
      have hM : (S.newE H).M g = some (.cells cs t (0, 0)) := by
       rw [vdj9 ⟨b, by simp [St.at, hb, hg]⟩]; exact q3
      have hlen : ((es.take n).map fun e => e.map (zal9 H d)).length = n := by simp; omega
      simp only [Rel];refine ⟨some ⟨g, 0, none⟩, cap, by rw [hlen], by rw [hlen]; exact hncap, by omega, fun k hk => hcs k hk, .inr ⟨g, 0, rfl, RelE.mk fun i e hi => ?_⟩⟩;rw [l'p, l'E] at hi;split at hi
      ·cases hei : es[i]? with
       | none => rw [hei] at hi; cases hi
       | some e0 =>
        rw [hei] at hi;simp only [Option.map_some, Option.some.injEq] at hi;subst hi;obtain ⟨l1, l2⟩ := q7 i e0 hei;refine ⟨by simpa using l1, RelC.mk fun j a hj => ?_⟩;rw [l'p] at hj;cases hej : e0[j]? with
        | none => rw [hej] at hj; cases hj
        | some a0 =>
         rw [hej] at hj;simp only [Option.map_some, Option.some.injEq] at hj;subst hj;obtain ⟨w, hw, ho, hrw⟩ := l2 j a0 hej;refine ⟨w, ?_, ho, zaI9 hok d a0 w ?_ hrw⟩
         ·show zs0 (S.newE H).M g (0 + i * s + j) = some w;simp only [zs0, hM, l'm];exact hw
         ·have h2 := l'j.1 h.2 e0 (l'q (by rw [l'E]; rw [if_pos (by assumption)]; exact hei));exact l'j.1 h2 a0 (l'q hej)
      ·cases hi
  | _ => exact wdz9 _ u hr
theorem qaW9 {S : St} {H : List Blk} (f : AV → AV) (k : AV → Bool) (hf : ∀ v u, k v = true → Rel (S.env H) v u → Rel (S.newE H) (f v) u) {as : List AV} {vs : List Value} (h : as.all k = true) (hr : RelL (S.env H) as vs) : RelL (S.newE H) (as.map f) vs := by
 refine RelL.mk (by simpa using hr.length) fun i a v ha hv => ?_;rw [l'p] at ha;cases hx : as[i]? with
 | none => rw [hx] at ha; cases ha
 | some x =>
  rw [hx] at ha;simp only [Option.map_some, Option.some.injEq] at ha;subst ha;obtain ⟨v', hv', hr'⟩ := hr.get hx;rw [hv] at hv'; injection hv' with hv'; subst hv'
  exact hf x v (l'j.1 h x (l'q hx)) hr'
theorem zaW9 {S : St} {H : List Blk} (hok : S.Ok H) (d : Nat) (v : AV) (u : Value) (h : okWA H d v = true) (hr : Rel (S.env H) v u) : Rel (S.newE H) (xU0 H d v) u := by
 have other : okWA H d v = okW H d v → xU0 H d v = zal9 H d v → Rel (S.newE H) (xU0 H d v) u := fun h1 h2 => by
  rw [h2]; rw [h1] at h;exact zaI9 hok d v u h hr
 cases v with
 | agg cs =>
  simp only [okWA, xU0, Rel] at *;obtain ⟨vs, rfl, hl, h1⟩ := hr;exact ⟨vs, rfl, qaW9 _ _ (zaI9 hok d) h hl, h1⟩
 | _ => exact other rfl rfl
theorem qcj9 {S : St} {H : List Blk} (hok : S.Ok H) (d : Nat) (v : AV) (u : Value) (h : okWR H d v = true) (hr : Rel (S.env H) v u) : Rel (S.newE H) (wU0 H d v) u := by
 have other : okWR H d v = okWA H d v → wU0 H d v = xU0 H d v → Rel (S.newE H) (wU0 H d v) u := fun h1 h2 => by
  rw [h2]; rw [h1] at h;exact zaW9 hok d v u h hr
 cases v with
 | tup cs =>
  simp only [okWR, wU0, Rel] at *;obtain ⟨vs, rfl, hl⟩ := hr;exact ⟨vs, rfl, qaW9 _ _ (zaW9 hok d) h hl⟩
 | _ => exact other rfl rfl
def St.from (S : St) (n : Nat) : Env := ⟨fun k => if n ≤ k then S.M k else none, fun _ => none, fun _ => none, fun _ => none⟩
section
variable {P : Program} {G : Glob}
def PCW (P : Program) (G : Glob) (f : FuncId) (args : List AV) (r : AV) : Prop :=
 ∀ (S : St) (vals : List Value), S.Ok [] → Globs G S.M → RelL (S.env []) args vals →
  Calls P f vals.toArray S.w fun e w' => ∃ v S', e = .returned v ∧ S'.w = w' ∧ S'.Ok [] ∧ Ext 0 S [] S' [] ∧ Rel (S'.from S.w.heap.size) r v
theorem vdz9 {E E' : Env} (h : ∀ k o, E.M k = some o → E'.M k = some o) (hs : ∀ b, E.sh b = none) (hν : ∀ b, E.ν b = none) : E.le E' :=
 ⟨h, fun b s cur q => (by rw [hs] at q; cases q), fun b g q => (by rw [hν] at q; cases q)⟩
theorem zcj9 {f : FuncId} {fn : Func} {c : Code} {args : List AV} {r : AV} (d : Nat) (hf : P.funcs[f]? = some fn) (hb : fn.body = some c)
  (h : AWp false P G 0 c (fun e a' H' => (e = .normal ∨ e = .ret) ∧ (ares P fn.results.toList a' H').1 = true ∧ okWR H' d (ares P fn.results.toList a' H').2 = true ∧ wU0 H' d (ares P fn.results.toList a' H').2 = r) (args ++ List.replicate (fn.ntmps - args.length) (.tup [])) []) : PCW P G f args r := fun S vals hok hG ha => by
 have hl := ha.length;have hw := h none S { tmps := vals.toArray ++ Array.replicate (fn.ntmps - vals.toArray.size) undef, defers := [] } rfl hok hG (l'f _) (by
  simp only [Array.toList_append, Array.toList_replicate, z'A, hl];exact ha.append (RelL.replicate (by simp [Rel, RelL, undef]) _))
 refine (callsIn_wide (n := 0)).1 (callsIn_of_wp_marks (F := Fence.wide) hf hb trivial (wpIn_mono hw fun e act w hE => ?_));obtain ⟨a', H', S', rfl, ⟨he, har, hko, hcl⟩, hok', hext, ha', Ds, hd, hp, hq⟩ := hE;have key : LeavesInM Fence.wide 0 P fn act.tmps (fun e w' => ∃ v S', e = .returned v ∧ S'.w = w' ∧ S'.Ok [] ∧ Ext 0 S [] S' [] ∧ Rel (S'.from S.w.heap.size) r v) act.defers .returning S'.w := by
  rw [hd, l'R];refine qT0 Ds S' hok' hext hp hq fun T tok text tM tμ tν => ?_;have henv : T.env H' = S'.env H' := by simp only [St.env, tM, tμ, tν]
  obtain ⟨v, hv, hr⟩ := vcu9 tok (by rw [henv]; exact ha') har;refine ⟨v, hv, v, T.freeze H', rfl, rfl, xai9 tok, text.trans (zaT9 tok), ?_⟩;have h1 := qcj9 tok d _ v hko hr;rw [hcl] at h1;refine Rel.mono (vdz9 (fun k o q => ?_) (fun _ => rfl) (fun _ => rfl)) r v h1;obtain ⟨q1, q2⟩ := xcE9 q;have hge : S.w.heap.size ≤ k := (text.own k q1).resolve_left fun ⟨b, hb⟩ => by simp [St.at] at hb
  show (if S.w.heap.size ≤ k then (T.freeze H').M k else none) = some o;rw [if_pos hge, qJ0 q1]; exact q2
 rcases he with rfl|rfl
 ·exact key
 ·exact key
def kdz9 (P : Program) (n : Nat) (rs : List ResultVar) (d : Nat) (r rw : AV) : xl0 := fun e s' H' =>
 xaF9 P n rs d r e s' H' ∧ okWR H' d (resS P n rs s' H').2 = true ∧ wU0 H' d (resS P n rs s' H').2 = rw
theorem kdj9 {n : Nat} {rs : List ResultVar} {d : Nat} {r rw : AV} {B : Prop} {s : Nat → AV} {H : List Blk} (h : B ∧ (resS P n rs s H).1 = true ∧ okR H d (resS P n rs s H).2 = true ∧ (zT0 H d (resS P n rs s H).2).eqv r) (h2 : okWR H d (resS P n rs s H).2 = true ∧ wU0 H d (resS P n rs s H).2 = rw) : Out (kdz9 P n rs d r rw) .ret B s H := ⟨h.1, ⟨.inr rfl, h.2⟩, h2⟩
theorem zei9 {f : FuncId} {fn : Func} {args : List AV} {r rw : AV} (d n : Nat) (rs : List ResultVar) (hf : P.funcs[f]? = some fn) (hb : fn.body.isSome = true) (hn : fn.ntmps = n) (hrs : fn.results.toList = rs) (hl : args.length ≤ n)
  (h : ∀ s, kcy9 s 0 args → Go false P G 0 n (wq0 fn) [] (kdz9 P n rs d r rw) True s []) : PC P G f args r ∧ PCW P G f args rw := by
 obtain ⟨c, hc⟩ := n'i.1 hb;have key := fun a (h1 : a.length = n) (h2 : xaT9 a 0 args) => (h (getA a) (vay9 a 0 args h2)).2;unfold At atR wq0 at key;rw [hc] at key;constructor
 ·refine xbQ9 d n rs hf hc hn hrs hl fun a h1 h2 => ?_;have := key a h1 h2;rw [← way9 h1] at this;refine vs0 this fun e a H ⟨s, ha, q, _⟩ => ?_;subst ha;unfold Done;rw [kay9];exact q
 ·refine zcj9 d hf hc ?_;have h1 : (args ++ List.replicate (fn.ntmps - args.length) (AV.tup [])).length = n := by simp [hn]; omega
  have := key _ h1 (by simpa using wT0 [] args _);rw [← way9 h1] at this;refine vs0 this fun e a H ⟨s, ha, q, q2⟩ => ?_;subst ha;rw [hrs, kay9];exact ⟨q.1, q.2.1, q2⟩
open Classical in
theorem vbS9 {f : FuncId} {args args' : List AV} {r : AV} {H : List Blk} (d : Nat) (hk : args.all (okA H d) = true) (he : args.map (xq0 H d) = args') (h : PCW P G f args' r) : wd0 P G f args H r H := fun S vals hok hG ha => by
 subst he;have hok0 := xai9 hok;have hM0 : ∀ k o, S.M k = some o → (S.freeze H).M k = some o := fun k o hk => zai9 hok hk;have ha0 : RelL ((S.freeze H).env []) (args.map (xq0 H d)) vals := wai9 hok _ _ (vai9 hok d) hk ha;refine (h (S.freeze H) vals hok0 (hG.mono hM0) ha0).mono fun e w' ⟨v, S1, he, hw, hok1, hext, hrel⟩ => ?_;have hno : ∀ (T : St) k, ¬ T.Owns [] k := fun T k ⟨b, hb⟩ => by simp [St.at] at hb
 let S' : St := ⟨fun k => if S.Owns H k then none else S1.M k, S.μ, S.ν, S1.w⟩
 have hM' : ∀ k, ¬ S.Owns H k → S'.M k = S1.M k := fun k hk => if_neg hk;have hMo : ∀ k, S.Owns H k → S'.M k = none := fun k hk => if_pos hk;have hM : ∀ k o, S.M k = some o → S'.M k = some o := fun k o hk => by
  have hn : ¬ S.Owns H k := fun q => by rw [qbr9 hok q] at hk; cases hk
  rw [hM' k hn]; exact hext.M k o (hM0 k o hk)
 have hsame : ∀ g o, S.Owns H g → S.w.heap[g]? = some o → S1.w.heap[g]? = some o := fun g o hg ho => by
  refine hok1.imm g o (hext.M g o ?_);rw [qJ0 hg]; exact ho
 have hlt : ∀ k, S.Owns H k → k < S.w.heap.size := fun k ⟨b, hb⟩ => by
  unfold St.at at hb;split at hb
  ·rename_i s t es hbb;rcases hok.row b s t es hbb with ⟨q, _⟩|⟨g, k', cs, h1, h2, h3, _⟩
   ·rw [q] at hb; cases hb
   ·rw [h1] at hb; injection hb with hb; rw [← hb]; exact (l'l.1 h3).1
  ·rename_i ob0 hbb;obtain ⟨g, ob1, h1, h2, h3, _⟩ := hok.ob b ob0 hbb;rw [h1] at hb; injection hb with hb; rw [← hb]; exact (l'l.1 h3).1
  ·cases hb
 have hle : (S.env H).le (S'.env H) := ⟨hM, fun b s cur hs => ⟨cur, l'f _, hs, fun _ => rfl⟩, fun b g hs => hs⟩;refine ⟨v, S', he, hw, ⟨fun k o hk => ?_, fun b s t es hbb => ?_, fun b ob0 hbb => ?_, hok.inj⟩, ⟨hext.os, hext.tape, hext.output, hext.size, fun k hk hn => hext.keep k hk (hno _ _), hM, fun k hk => ?_, fun k hk => .inl hk, fun b s cur _ hs => ⟨cur, l'f _, hs, fun _ => rfl⟩, fun b g _ hs => hs, id⟩, ?_⟩
 ·by_cases q : S.Owns H k
  ·rw [hMo k q] at hk; cases hk
  ·rw [hM' k q] at hk; exact hok1.imm k o hk
 ·rcases hok.row b s t es hbb with q|⟨g, k, cs, h1, h2, h3, h4, h5, h6, h7⟩
  ·exact .inl q
  ·have hg : S.Owns H g := ⟨b, by simp [St.at, hbb, h1]⟩;exact .inr ⟨g, k, cs, h1, hMo g hg, hsame g _ hg h3, h4, h5, h6, h7.mono hle⟩
 ·obtain ⟨g, ob1, h1, h2, h3, h4⟩ := hok.ob b ob0 hbb;have hg : S.Owns H g := ⟨b, by simp [St.at, hbb, h1]⟩;exact ⟨g, ob1, h1, hMo g hg, hsame g _ hg h3, h4.mono hle⟩
 ·by_cases q : S.Owns H k
  ·exact absurd (hMo k q) hk
  ·rw [hM' k q] at hk;rcases hext.dom k hk with q1|q1|q1
   ·left
    intro h0;apply q1;simp only [St.freeze]; rw [if_neg q]; exact h0
   ·exact absurd q1 (hno _ _)
   ·exact .inr (.inr q1)
 ·refine Rel.mono (vdz9 (fun k o q => ?_) (fun _ => rfl) (fun _ => rfl)) r v hrel;have q : (if (S.freeze H).w.heap.size ≤ k then S1.M k else none) = some o := q;split at q
  ·rename_i hge;have hn : ¬ S.Owns H k := fun w => absurd (hlt k w) (Nat.not_lt.2 hge);rw [show (S'.env H).M k = S'.M k from rfl, hM' k hn]; exact q
  ·cases q
end
end Go.V
