/- The library V, part 50: a package-level array of texts, out of a row's list. -/
import Derived.Test.YtbgdagokjfmcbaaDoorV37
import Derived.Test.YtbgdagokjfmcbaaDoorV33
import Derived.OpenShut
import Derived.Scope
import Derived.Lib.LastIndexByte
import Derived.Lib.SlTrimSet
import Derived.Lib.Strings
import Derived.Lib.IndexLaws
import Derived.Lib.LaidTab
set_option linter.unusedVariables false
set_option linter.unusedSimpArgs false
set_option autoImplicit false
namespace Go.V
open Go Go.RowKit
def renA (K : List Blk) (d j m : Nat) : AV → AV
 | .own b n h c => if b = j then .own m n h c else kx0 K d (.own b n h c)
 | v => kx0 K d v
def vbI9 (K : List Blk) (d j : Nat) : AV → Bool
 | .own b n h c => b == j || okA K d (.own b n h c)
 | v => okA K d v
def renR (K : List Blk) (d j m : Nat) : AV → AV
 | .tup vs => .tup (vs.map (renA K d j m))
 | v => renA K d j m v
def waZ9 (K : List Blk) (d j : Nat) : AV → Bool
 | .tup vs => vs.all (vbI9 K d j)
 | v => vbI9 K d j v
open Classical in
theorem xcL9 {P : Program} {G : Glob} {f : FuncId} {args : List AV} {r : AV} {K : List Blk} {s : Nat} {t : TypeId} {es es' : List (List AV)} {r' : AV} (d j : Nat) (H : List Blk) (h : qg0 P G f args [] r K) (hc : idsL kX0 args = true) (hj : K[j]? = some (.row s t es))
  (hes : (es.all fun e => e.all (okC (K.set j (zd0 s es.length)) d)) = true) (hes' : (es.map fun e => e.map (kh0 (K.set j (zd0 s es.length)) d)) = es') (hr : waZ9 (K.set j (zd0 s es.length)) d j r = true) (hr' : renR (K.set j (zd0 s es.length)) d j H.length r = r') :
  qg0 P G f args H r' (H ++ [.row s t es']) := fun S vals hok hG ha => by
 subst hes'
 let S0 : St := ⟨S.M, fun _ => none, fun _ => none, S.w⟩
 have hat0 : ∀ (T : St) b, T.at [] b = none := fun T b => by simp [St.at]
 have hok0 : S0.Ok [] := ⟨hok.imm, fun b s t es hb => by simp at hb, fun b ob0 hb => by simp at hb, fun b b' g hb => by rw [hat0] at hb; cases hb⟩;have hargs : RelL (S0.env []) args vals := RelL.move (ww0 (E := S.env H) (E' := S0.env []) fun k o q => q) _ _ hc ha;refine (h S0 vals hok0 hG hargs).mono fun e w' hh => ?_;obtain ⟨v, S1, rfl, rfl, hok1, hext, hrel⟩ := hh;have howns : ∀ (T : St) k, ¬ T.Owns [] k := fun T k ⟨b, hb⟩ => by rw [hat0] at hb; cases hb
 obtain ⟨hokD, hleD, hatD, hatD', hextD⟩ := xan9 hj hok1;generalize hK0 : K.set j (zd0 s es.length) = K0 at *
 let F : St := (S1.dead j).freeze K0
 have hFok : F.Ok [] := wY0 hokD;have hFM : ∀ k o, S1.M k = some o → F.M k = some o := fun k o hk => xY0 hokD hk;have hMF : ∀ k, ¬ (S1.dead j).Owns K0 k → F.M k = S1.M k := fun k hk => by
  show (if (S1.dead j).Owns K0 k then _ else _) = _;rw [if_neg hk]; rfl
 have hsz : S.w.heap.size ≤ S1.w.heap.size := hext.size;have hown1 : ∀ k, (S1.dead j).Owns K0 k → S.w.heap.size ≤ k := fun k ⟨x, hx⟩ => by
  rcases hext.own k ⟨x, (hatD x k hx).2⟩ with q|q
  ·exact absurd q (howns _ _)
  ·exact q
 let S' : St := ⟨F.M, upd S.μ H.length (S1.μ j), S.ν, S1.w⟩
 have hsame : ∀ k, k < S.w.heap.size → S1.w.heap[k]? = S.w.heap[k]? := fun k hk => hext.keep k hk (howns _ _);have hMn : ∀ g, g < S.w.heap.size → S.M g = none → F.M g = none := fun g hg hn => by
  rw [hMF g fun q => by have := hown1 g q; omega];cases hM : S1.M g with
  | none => rfl
  | some o =>
   rcases hext.dom g (by rw [hM]; simp) with q|q|q
   ·exact absurd hn q
   ·exact absurd q (howns _ _)
   ·exact absurd hg (by show ¬ g < S0.w.heap.size; omega)
 have hgetlt : ∀ b, b < H.length → ∀ B : Blk, (H ++ [B])[b]? = H[b]? := fun b hb B => List.getElem?_append_left hb;have hgetn : ∀ B : Blk, (H ++ [B])[H.length]? = some B := fun B => by simp
 have hle : (S.env H).le (S'.env (H ++ [.row s t (es.map fun e => e.map (kh0 K0 d))])) := by
  refine ⟨fun k o hk => hFM k o (hext.M k o hk), fun b s1 cur hb => ⟨cur, Nat.le_refl _, ?_, fun _ => ?_⟩, fun b g hb => ?_⟩
  ·have hlt : b < H.length := by
    rcases Nat.lt_or_ge b H.length with q|q
    ·exact q
    ·have hb : shOf H b = some (s1, cur) := hb;rw [shOf, List.getElem?_eq_none q] at hb; cases hb
   show shOf _ b = _;rw [shOf, hgetlt b hlt]; exact hb
  ·have hlt : b < H.length := by
    rcases Nat.lt_or_ge b H.length with q|q
    ·exact q
    ·have hb : shOf H b = some (s1, cur) := hb;rw [shOf, List.getElem?_eq_none q] at hb; cases hb
   exact kg0 _ _ (by omega)
  ·have hlt : b < H.length := by
    rcases Nat.lt_or_ge b H.length with q|q
    ·exact q
    ·have hb : mpOf S.ν H b = some g := hb;rw [mpOf, List.getElem?_eq_none q] at hb; cases hb
   show mpOf S.ν _ b = _;rw [mpOf, hgetlt b hlt]; exact hb
 have hFle : (F.env []).le (S'.env (H ++ [.row s t (es.map fun e => e.map (kh0 K0 d))])) :=
  ⟨fun k o q => q, fun b s cur hb => by simp [St.env, shOf] at hb, fun b g hb => by simp [St.env, mpOf] at hb⟩
 have hjn : ∀ g k, S1.μ j = some (g, k) → F.M g = none ∧ S.w.heap.size ≤ g ∧ S1.M g = none := fun g k hg => by
  have hatj : S1.at K j = some g := by simp [St.at, hj, hg]
  have hno : ¬ (S1.dead j).Owns K0 g := fun ⟨x, hx⟩ => by
   obtain ⟨q1, q2⟩ := hatD x g hx;exact q1 (hok1.inj x j g q2 hatj)
  obtain ⟨g0, k0, cs, q1, q2, _⟩ := (hok1.row j s t es hj).resolve_left (fun q => by rw [q.1] at hg; cases hg);rw [hg] at q1; injection q1 with q1; injection q1 with e1 e2; subst e1
  refine ⟨by rw [hMF g hno]; exact q2, ?_, q2⟩;rcases hext.own g ⟨j, hatj⟩ with q|q
  ·exact absurd q (howns _ _)
  ·exact q
 have hok' : S'.Ok (H ++ [.row s t (es.map fun e => e.map (kh0 K0 d))]) := by
  refine ⟨hFok.imm, fun b s1 t1 es1 hb => ?_, fun b ob0 hb => ?_, fun b b' g hb hb' => ?_⟩
  ·rcases Nat.lt_trichotomy b H.length with q|q|q
   ·rw [hgetlt b q] at hb;rcases hok.row b s1 t1 es1 hb with q1|⟨g, k, cs, h1, h2, h3, h4, h5, h6, h7⟩
    ·exact .inl ⟨(kg0 _ _ (by omega)).trans q1.1, q1.2⟩
    ·have hlt := (Array.getElem?_eq_some_iff.1 h3).1;exact .inr ⟨g, k, cs, (kg0 _ _ (by omega)).trans h1, hMn g hlt h2, (hsame g hlt).trans h3, h4, h5, h6, h7.mono hle⟩
   ·subst q;rw [hgetn] at hb;injection hb with hb; injection hb with e1 e2 e3; subst e1; subst e2; subst e3
    rcases hok1.row j s t es hj with q1|⟨g, k, cs, h1, h2, h3, h4, h5, h6, h7⟩
    ·refine .inl ⟨(qf0 _ _ _).trans q1.1, q1.2.imp (fun q2 => by rw [q2]; rfl) id⟩
    ·refine .inr ⟨g, k, cs, (qf0 _ _ _).trans h1, (hjn g k h1).1, h3, h4, by simpa using h5, h6, fun i e hi => ?_⟩;rw [List.getElem?_map] at hi;cases hei : es[i]? with
     | none => rw [hei] at hi; cases hi
     | some e0 =>
      rw [hei] at hi;simp only [Option.map_some, Option.some.injEq] at hi;subst hi;obtain ⟨l1, l2⟩ := h7 i e0 hei;refine ⟨by simpa using l1, fun q a hq => ?_⟩;rw [List.getElem?_map] at hq;cases hej : e0[q]? with
      | none => rw [hej] at hq; cases hq
      | some a0 =>
       rw [hej] at hq;simp only [Option.map_some, Option.some.injEq] at hq;subst hq;obtain ⟨u, hu, ho, hru⟩ := l2 q a0 hej;have hk := List.all_eq_true.1 (List.all_eq_true.1 hes e0 (List.mem_of_getElem? hei)) a0 (List.mem_of_getElem? hej);exact ⟨u, hu, ho, Rel.mono hFle _ _ (wD0 hokD d a0 u hk (Rel.mono hleD _ _ hru))⟩
   ·rw [List.getElem?_eq_none (by simp; omega)] at hb; cases hb
  ·rcases Nat.lt_or_ge b H.length with q|q
   ·rw [hgetlt b q] at hb;obtain ⟨g, ob1, h1, h2, h3, h4⟩ := hok.ob b ob0 hb;have hlt := (Array.getElem?_eq_some_iff.1 h3).1;exact ⟨g, ob1, h1, hMn g hlt h2, (hsame g hlt).trans h3, h4.mono hle⟩
   ·rcases Nat.lt_or_ge H.length b with q2|q2
    ·rw [List.getElem?_eq_none (by simp; omega)] at hb; cases hb
    ·obtain rfl : b = H.length := by omega
     rw [hgetn] at hb; cases hb
  ·have hold : ∀ b g, S'.at (H ++ [.row s t (es.map fun e => e.map (kh0 K0 d))]) b = some g → (b < H.length ∧ S.at H b = some g) ∨ (b = H.length ∧ S.w.heap.size ≤ g) := fun b g hb => by
    rcases Nat.lt_trichotomy b H.length with q|q|q
    ·left
     refine ⟨q, ?_⟩;simpa only [St.at, hgetlt b q, S', kg0 S.μ (S1.μ j) (show b ≠ H.length by omega)] using hb
    ·right
     subst q;refine ⟨rfl, ?_⟩;simp only [St.at, hgetn, S', qf0] at hb;cases hm : S1.μ j with
     | none => rw [hm] at hb; cases hb
     | some gk =>
      obtain ⟨g1, k1⟩ := gk;rw [hm] at hb; injection hb with hb; subst hb
      exact (hjn g1 k1 hm).2.1
    ·simp [St.at, List.getElem?_eq_none (l := H ++ [Blk.row s t (es.map fun e => e.map (kh0 K0 d))]) (i := b) (by simp; omega)] at hb
   have hsmall : ∀ b g, S.at H b = some g → g < S.w.heap.size := fun b g hb => by
    unfold St.at at hb;split at hb
    ·rename_i s1 t1 es1 hbb;rcases hok.row b s1 t1 es1 hbb with q|⟨g1, k1, cs, h1, h2, h3, _⟩
     ·rw [q.1] at hb; cases hb
     ·rw [h1] at hb; injection hb with hb; subst hb
      exact (Array.getElem?_eq_some_iff.1 h3).1
    ·rename_i ob0 hbb;obtain ⟨g1, ob1, h1, h2, h3, _⟩ := hok.ob b ob0 hbb;rw [h1] at hb; injection hb with hb; subst hb
     exact (Array.getElem?_eq_some_iff.1 h3).1
    ·cases hb
   rcases hold b g hb with ⟨q1, q2⟩|⟨q1, q2⟩ <;> rcases hold b' g hb' with ⟨p1, p2⟩|⟨p1, p2⟩
   ·exact hok.inj b b' g q2 p2
   ·have := hsmall b g q2; omega
   ·have := hsmall b' g p2; omega
   ·omega
 have hone : ∀ (a : AV) (u : Value), vbI9 K0 d j a = true → Rel (S1.env K) a u → Rel (S'.env (H ++ [.row s t (es.map fun e => e.map (kh0 K0 d))])) (renA K0 d j H.length a) u := fun a u hk hru => by
  have other : okA K0 d a = true → renA K0 d j H.length a = kx0 K0 d a → Rel (S'.env (H ++ [.row s t (es.map fun e => e.map (kh0 K0 d))])) (renA K0 d j H.length a) u := fun h1 h2 => by
   rw [h2];exact Rel.mono hFle _ _ (xJ0 hokD d a u h1 (Rel.mono hleD _ _ hru))
  cases a with
  | own b n hh c =>
   by_cases hbj : b = j
   ·subst hbj;simp only [renA, if_pos];simp only [Rel] at hru ⊢;obtain ⟨s1, cur, h1, h2, h3⟩ := hru;have h1 : shOf K b = some (s1, cur) := h1;rw [shOf, hj] at h1;injection h1 with h1; injection h1 with e1 e2; subst e1; subst e2
    refine ⟨s, es.length, ?_, h2, fun q => ?_⟩
    ·show shOf _ _ = _;rw [shOf, hgetn]; simp
    ·have h3 := h3 q;have hμ : (S'.env (H ++ [.row s t (es.map fun e => e.map (kh0 K0 d))])).μ H.length = (S1.env K).μ b := qf0 _ _ _;rw [hμ];exact h3
   ·refine other ?_ (by simp only [renA, if_neg hbj]);simp only [vbI9, Bool.or_eq_true, beq_iff_eq] at hk;exact hk.resolve_left hbj
  | _ => exact other hk rfl
 refine ⟨v, S', rfl, rfl, hok', ⟨hext.os, hext.tape, hext.output, hext.size, fun k hk _ => hsame k hk, fun k o hk => hFM k o (hext.M k o hk), fun k hk => ?_, fun k hk => ?_, fun b s cur hb hbs => ?_, fun b g hb hg => ?_, fun q => by simp⟩, ?_⟩
 ·rcases Classical.em ((S1.dead j).Owns K0 k) with q|q
  ·exact .inr (.inr (hown1 k q))
  ·have hk : F.M k ≠ none := hk;rw [hMF k q] at hk;rcases hext.dom k hk with q|q|q
   ·exact .inl q
   ·exact absurd q (howns _ _)
   ·exact .inr (.inr q)
 ·obtain ⟨b, hb⟩ := hk;rcases Nat.lt_trichotomy b H.length with q|q|q
  ·left
   exact ⟨b, by simpa only [St.at, hgetlt b q, S', kg0 S.μ (S1.μ j) (show b ≠ H.length by omega)] using hb⟩
  ·right
   subst q;simp only [St.at, hgetn, S', qf0] at hb;cases hm : S1.μ j with
   | none => rw [hm] at hb; cases hb
   | some gk =>
    obtain ⟨g1, k1⟩ := gk;rw [hm] at hb; injection hb with hb; subst hb
    exact (hjn g1 k1 hm).2.1
  ·simp [St.at, List.getElem?_eq_none (l := H ++ [Blk.row s t (es.map fun e => e.map (kh0 K0 d))]) (i := b) (by simp; omega)] at hb
 ·exact ⟨cur, Nat.le_refl _, by rw [shOf, hgetlt b hb]; exact hbs, fun _ => kg0 _ _ (by omega)⟩
 ·rw [mpOf, hgetlt b hb]; exact hg
 ·subst hr';cases r with
  | tup vs =>
   simp only [renR, waZ9, Rel] at *;obtain ⟨us, rfl, hus⟩ := hrel;refine ⟨us, rfl, RelL.mk (by simpa using hus.length) fun i a u hia hiu => ?_⟩;rw [List.getElem?_map] at hia;cases hy : vs[i]? with
   | none => rw [hy] at hia; cases hia
   | some y =>
    rw [hy] at hia;simp only [Option.map_some, Option.some.injEq] at hia;subst hia;obtain ⟨u', hu', hry⟩ := hus.get hy;rw [hiu] at hu'; injection hu' with hu'; subst hu'
    exact hone y u (List.all_eq_true.1 hr y (List.mem_of_getElem? hy)) hry
  | _ => simp only [renR, waZ9] at *; exact hone _ _ hr hrel
theorem wO0 {n0 n m : Nat} {s : Nat → AV} {H : List Blk} (hm : n0 ≤ m) (hml : m ≤ H.length) (hb : (H.take m).all (Blk.below m) = true) : Weak n0 (Lst n s) H (Lst n fun t => qe0 m (s t)) (H.take m) := by
 rw [← wZ0]; exact zas9 hm hml hb
section
variable {ρ : Bool} {P : Program} {G : Glob} {n0 n : Nat} {body : Code} {p : List Nat} {Q : xn0} {B : Prop} {s : Nat → AV} {H : List Blk}
def vaZ9 (ρ : Bool) (P : Program) (G : Glob) (n0 n : Nat) (body : Code) (p : List Nat) (Q : xn0) : Nat → (Nat → AV) → List Blk → Prop
 | 0, _, _ => False
 | m + 1, s, H => At ρ P G n0 n body (0 :: p) (xF0 (vaZ9 ρ P G n0 n body p Q m) Q) s H
theorem qcY9 {Q' : xn0} (h : At ρ P G n0 n body p Q s H) (hq : ∀ e s H, Q e s H → Q' e s H) : At ρ P G n0 n body p Q' s H :=
 xy0 h fun e a H ⟨s, ha, q⟩ => ⟨s, ha, hq e s H q⟩
theorem zau9 (m : Nat) (hs : vcK9 (atR body p) = true) (h : Go ρ P G n0 n body (0 :: p) (xF0 (vaZ9 ρ P G n0 n body p Q m) Q) B s H) : Go ρ P G n0 n body p Q B s H := by
 refine go_loop hs (fun k s H => vaZ9 ρ P G n0 n body p Q k s H) (m := m + 1) h.1 (Weak.refl _ _) h.2 fun k s H hI => ?_;cases k with
 | zero => exact hI.elim
 | succ k =>
  refine ⟨trivial, qcY9 hI fun e s' H' q => ?_⟩;cases e with
  | normal => exact ⟨k, s', H', Nat.lt_succ_self k, Weak.refl _ _, q⟩
  | _ => exact q
theorem kbI9 {m : Nat} (h : Go ρ P G n0 n body (0 :: p) (xF0 (vaZ9 ρ P G n0 n body p Q m) Q) B s H) : Out (xF0 (vaZ9 ρ P G n0 n body p Q (m + 1)) Q) .normal B s H := ⟨h.1, h.2⟩
end
def frz (j s : Nat) (es : List (List AV)) : AV → AV
 | .own b n h c => if b = j ∧ h = es.length then .sl s (es.take n) c else .own b n h c
 | .ptr b i o h => if b = j ∧ h = es.length ∧ i < es.length then .iptr (es.getD i []) o else .ptr b i o h
 | v => v
def frzB (j s : Nat) (es : List (List AV)) : Blk → Blk
 | .row z t fs => .row z t (fs.map fun e => e.map (frz j s es))
 | b => b
def frzH (j s : Nat) (es : List (List AV)) (H : List Blk) : List Blk := (H.set j (zd0 s es.length)).map (frzB j s es)
theorem kcx9 {j s : Nat} {es : List (List AV)} (H : List Blk) (x : Nat) : shOf (H.map (frzB j s es)) x = shOf H x := by
 simp only [shOf, List.getElem?_map];cases H[x]? with
 | none => rfl
 | some B => cases B <;> simp [frzB]
theorem vbv9 {j s : Nat} {es : List (List AV)} (ν : Nat → Option Nat) (H : List Blk) (x : Nat) : mpOf ν (H.map (frzB j s es)) x = mpOf ν H x := by
 simp only [mpOf, List.getElem?_map];cases H[x]? with
 | none => rfl
 | some B => cases B <;> simp [frzB]
theorem zdo9 {j s : Nat} {es : List (List AV)} (S : St) (H : List Blk) (x : Nat) : S.at (H.map (frzB j s es)) x = S.at H x := by
 simp only [St.at, List.getElem?_map];cases H[x]? with
 | none => rfl
 | some B => cases B <;> simp [frzB]
open Classical in
theorem xau9 {n0 n j sz : Nat} {t : TypeId} {s : Nat → AV} {H : List Blk} {es : List (List AV)} (hb : H[j]? = some (.row sz t es)) :
  Weak n0 (Lst n s) H (Lst n fun x => frz j sz es (s x)) (frzH j sz es H) := fun S vs hok hn ha => by
 obtain ⟨hokD, hleD, hatD, hatD', hextD⟩ := xan9 hb hok;have hlt := (List.getElem?_eq_some_iff.1 hb).1;have hself : (H.set j (zd0 sz es.length))[j]? = some (zd0 sz es.length) := List.getElem?_set_self hlt
 let own (k : Nat) : Prop := ∃ c, S.μ j = some (k, c)
 let S' : St := ⟨fun k => if own k then S.w.heap[k]? else S.M k, upd S.μ j none, S.ν, S.w⟩
 have hMn : ∀ k, own k → S.M k = none := fun k ⟨c, hc⟩ => by
  obtain ⟨g0, k0, cs, q1, q2, _⟩ := (hok.row j sz t es hb).resolve_left (fun q => by rw [q.1] at hc; cases hc);rw [hc] at q1; injection q1 with q1; injection q1 with e1 e2; subst e1; exact q2
 have hM : ∀ k o, S.M k = some o → S'.M k = some o := fun k o hk => by
  have hno : ¬ own k := fun q => by rw [hMn k q] at hk; cases hk
  show (if own k then _ else _) = _;rw [if_neg hno]; exact hk
 have henv : ∀ b s1 cur, (S.env H).sh b = some (s1, cur) → ∃ cur', cur ≤ cur' ∧ (S'.env (frzH j sz es H)).sh b = some (s1, cur') ∧ (cur' = cur → S'.μ b = S.μ b) := fun b s1 cur h => by
  obtain ⟨cur', l, h1, h2⟩ := hleD.sh b s1 cur h;exact ⟨cur', l, by
   show shOf _ b = _;rw [frzH, kcx9]; exact h1, h2⟩
 have hle : (S.env H).le (S'.env (frzH j sz es H)) := ⟨hM, henv, fun b g h => by
  show mpOf S.ν _ b = _;rw [frzH, vbv9];exact hleD.ν b g h⟩
 have hfrz : ∀ (a : AV) (v : Value), Rel (S.env H) a v → Rel (S'.env (frzH j sz es H)) (frz j sz es a) v := fun a v hr => by
  have other : frz j sz es a = a → Rel (S'.env (frzH j sz es H)) (frz j sz es a) v := fun h => by rw [h]; exact Rel.mono hle a v hr
  cases a with
  | own b m h c =>
   by_cases hbj : b = j ∧ h = es.length
   ·simp only [frz, if_pos hbj];obtain ⟨rfl, rfl⟩ := hbj;simp only [Rel] at hr ⊢;obtain ⟨s1, cur, h1, h2, h3⟩ := hr;have h1 : shOf H b = some (s1, cur) := h1;rw [shOf, hb] at h1;injection h1 with h1; injection h1 with e1 e2; subst e1; subst e2
    obtain ⟨hm, h4⟩ := h3 rfl;have hlen : (es.take m).length = m := by simp; omega
    rcases h4 with ⟨_, ⟨a0, rfl⟩, rfl, hc⟩|⟨g, k, cap, hg, rfl, hncap, hcapk, hcn, hcs⟩
    ·refine ⟨a0, 0, by simp, by simp, by simp [maxLen], fun k hk => ?_, .inl (by simp)⟩;rcases hc with rfl|rfl
     ·cases hk
     ·injection hk
    ·have hg : S.μ b = some (g, k) := hg;obtain ⟨g0, k0, cs, q1, q2, q3, q4, q5, q6, q7⟩ := (hok.row b sz t es hb).resolve_left (fun q => by rw [q.1] at hg; cases hg);rw [hg] at q1; injection q1 with q1; injection q1 with e1 e3; subst e1; subst e3
     have hMg : S'.M g = some (.cells cs t (0, 0)) := by
      show (if own g then _ else _) = _;rw [if_pos ⟨k, hg⟩]; exact q3
     refine ⟨some ⟨g, 0, none⟩, cap, by rw [hlen], by rw [hlen]; exact hncap, by omega, fun k hk => hcs k hk, .inr ⟨g, 0, rfl, RelE.mk fun i e hi => ?_⟩⟩;rw [List.getElem?_take] at hi;split at hi
     ·obtain ⟨l1, l2⟩ := q7 i e hi;refine ⟨l1, RelC.mk fun q a hq => ?_⟩;obtain ⟨w, hw, ho, hrw⟩ := l2 q a hq;refine ⟨w, ?_, ho, Rel.mono hle a w hrw⟩;show qx0 S'.M g (0 + i * sz + q) = some w;simp only [qx0, hMg, Nat.zero_add];exact hw
     ·cases hi
   ·exact other (by simp only [frz, if_neg hbj])
  | ptr b i o h =>
   by_cases hbj : b = j ∧ h = es.length ∧ i < es.length
   ·simp only [frz, if_pos hbj];obtain ⟨rfl, rfl, hi⟩ := hbj;simp only [Rel] at hr ⊢;obtain ⟨s1, cur, h1, h2, h3⟩ := hr;have h1 : shOf H b = some (s1, cur) := h1;rw [shOf, hb] at h1;injection h1 with h1; injection h1 with e1 e2; subst e1; subst e2
    obtain ⟨g, k, hg, rfl⟩ := h3 rfl;have hg : S.μ b = some (g, k) := hg;obtain ⟨g0, k0, cs, q1, q2, q3, q4, q5, q6, q7⟩ := (hok.row b sz t es hb).resolve_left (fun q => by rw [q.1] at hg; cases hg);rw [hg] at q1; injection q1 with q1; injection q1 with e1 e3; subst e1; subst e3
    have hMg : S'.M g = some (.cells cs t (0, 0)) := by
     show (if own g then _ else _) = _;rw [if_pos ⟨k, hg⟩]; exact q3
    have hei : es[i]? = some (es.getD i []) := by
     rw [List.getD_eq_getElem?_getD, List.getElem?_eq_getElem hi]; rfl
    obtain ⟨l1, l2⟩ := q7 i _ hei;refine ⟨g, i * sz, rfl, RelC.mk fun q a hq => ?_⟩;obtain ⟨w, hw, ho, hrw⟩ := l2 q a hq;refine ⟨w, ?_, ho, Rel.mono hle a w hrw⟩;show qx0 S'.M g (i * sz + q) = some w;simp only [qx0, hMg];exact hw
   ·exact other (by simp only [frz, if_neg hbj])
  | _ => exact other rfl
 have hat : ∀ x g, S'.at (frzH j sz es H) x = some g → x ≠ j ∧ S.at H x = some g := fun x g hx => by
  rw [frzH, zdo9] at hx;exact hatD x g hx
 have hget : ∀ (x : Nat) (B : Blk), x ≠ j → (frzH j sz es H)[x]? = some B → ∃ B0, H[x]? = some B0 ∧ B = frzB j sz es B0 := fun x B e h => by
  rw [frzH, List.getElem?_map, List.getElem?_set_ne (Ne.symm e)] at h;cases h0 : H[x]? with
  | none => rw [h0] at h; cases h
  | some B0 => rw [h0] at h; injection h with h; exact ⟨B0, rfl, h.symm⟩
 have hgetj : (frzH j sz es H)[j]? = some (frzB j sz es (zd0 sz es.length)) := by
  rw [frzH, List.getElem?_map, hself]; rfl
 refine ⟨S', rfl, ⟨fun k o hk => ?_, fun x s1 t1 es1 hx => ?_, fun x o hx => ?_, fun x y g hx hy => ?_⟩, ⟨rfl, rfl, rfl, Nat.le_refl _, fun _ _ _ => rfl, hM, fun k hk => ?_, fun k hk => ?_, fun x s1 cur _ hs => henv x s1 cur hs, fun x g _ hg => ?_, fun h => by simpa [frzH] using h⟩, ?_⟩
 ·have hk : (if own k then S.w.heap[k]? else S.M k) = some o := hk;split at hk
  ·exact hk
  ·exact hok.imm k o hk
 ·by_cases e : x = j
  ·subst e;rw [hgetj] at hx;injection hx with hx; injection hx with h1 h2 h3
   exact .inl ⟨qf0 _ _ _, .inr h2.symm⟩
  ·obtain ⟨B0, h0, hB⟩ := hget x _ e hx;cases B0 with
   | ob o => cases hB
   | row s2 t2 es2 =>
    injection hB with e1 e2 e3; subst e1; subst e2; subst e3
    rcases hok.row x s1 t1 es2 h0 with q|⟨g, k, cs, h1, h2, h3, h4, h5, h6, h7⟩
    ·refine .inl ⟨(kg0 _ _ e).trans q.1, q.2.imp (fun q2 => by rw [q2]; rfl) id⟩
    ·have hno : ¬ own g := fun ⟨c, hc⟩ => e (hok.inj x j g (by simp [St.at, h0, h1]) (by simp [St.at, hb, hc]));refine .inr ⟨g, k, cs, (kg0 _ _ e).trans h1, ?_, h3, h4, by simpa using h5, h6, fun i e' hi => ?_⟩
     ·show (if own g then _ else _) = _;rw [if_neg hno]; exact h2
     ·rw [List.getElem?_map] at hi;cases hei : es2[i]? with
      | none => rw [hei] at hi; cases hi
      | some e0 =>
       rw [hei] at hi;simp only [Option.map_some, Option.some.injEq] at hi;subst hi;obtain ⟨l1, l2⟩ := h7 i e0 hei;refine ⟨by simpa using l1, fun q a hq => ?_⟩;rw [List.getElem?_map] at hq;cases hej : e0[q]? with
       | none => rw [hej] at hq; cases hq
       | some a0 =>
        rw [hej] at hq;simp only [Option.map_some, Option.some.injEq] at hq;subst hq;obtain ⟨u, hu, ho, hru⟩ := l2 q a0 hej;exact ⟨u, hu, ho, hfrz a0 u hru⟩
 ·have e : x ≠ j := by
   rintro rfl;rw [hgetj] at hx; cases hx
  obtain ⟨B0, h0, hB⟩ := hget x _ e hx;cases B0 with
  | row _ _ _ => cases hB
  | ob o0 =>
   injection hB with hB; subst hB
   obtain ⟨g, ob1, h1, h2, h3, h4⟩ := hok.ob x o h0;have hno : ¬ own g := fun ⟨c, hc⟩ => e (hok.inj x j g (by simp [St.at, h0, h1]) (by simp [St.at, hb, hc]));refine ⟨g, ob1, h1, ?_, h3, h4.mono hle⟩;show (if own g then _ else _) = _;rw [if_neg hno]; exact h2
 ·exact hok.inj x y g (hat x g hx).2 (hat y g hy).2
 ·have hk : (if own k then S.w.heap[k]? else S.M k) ≠ none := hk;by_cases q : own k
  ·obtain ⟨c, hc⟩ := q;exact .inr (.inl ⟨j, by simp [St.at, hb, hc]⟩)
  ·rw [if_neg q] at hk; exact .inl hk
 ·obtain ⟨x, hx⟩ := hk;exact .inl ⟨x, (hat x k hx).2⟩
 ·rw [frzH, vbv9];exact (show mpOf S.ν _ x = _ from hleD.ν x g hg)
 ·refine RelL.mk (by simpa [Lst] using ha.length) fun i a v hi hv => ?_;have : (Lst n fun x => frz j sz es (s x)) = (Lst n s).map (frz j sz es) := by simp [Lst]
  rw [this, List.getElem?_map] at hi;cases hy : (Lst n s)[i]? with
  | none => rw [hy] at hi; cases hi
  | some y =>
   rw [hy] at hi;simp only [Option.map_some, Option.some.injEq] at hi;subst hi;obtain ⟨v', hv', hr⟩ := ha.get hy;rw [hv] at hv'; injection hv' with hv'; subst hv'
   exact hfrz y v hr
theorem qi0 {j s : Nat} {es fs : List (List AV)} (h : idsE (fun b => !(b == j)) fs = true) : (fs.map fun e => e.map (frz j s es)) = fs := by
 have h1 : ∀ a : AV, a.ids (fun b => !(b == j)) = true → frz j s es a = a := fun a ha => by
  cases a with
  | own b n h c =>
   simp only [AV.ids, Bool.not_eq_true', beq_eq_false_iff_ne, ne_eq] at ha;simp [frz, ha]
  | ptr b i o h =>
   simp only [AV.ids, Bool.not_eq_true', beq_eq_false_iff_ne, ne_eq] at ha;simp [frz, ha]
  | _ => rfl
 have h2 : ∀ e : List AV, idsL (fun b => !(b == j)) e = true → e.map (frz j s es) = e := fun e he => by
  induction e with
  | nil => rfl
  | cons a e ih =>
   rw [idsL, Bool.and_eq_true] at he;rw [List.map_cons, h1 a he.1, ih he.2]
 induction fs with
 | nil => rfl
 | cons e fs ih =>
  rw [idsE, Bool.and_eq_true] at h;rw [List.map_cons, h2 e h.1, ih h.2]
theorem vg0 {n0 n j sz : Nat} {t : TypeId} {es : List (List AV)} {Q : xn0} {B : Prop} {s : Nat → AV} {H : List Blk} {I : Nat → (Nat → AV) → List Blk → Prop} {m : Nat} (m' k : Nat) (hb : H[j]? = some (.row sz t es)) (hm : m' < m) (hB : B) (hn : n0 ≤ k) (hk : k ≤ H.length) (hbl : ((frzH j sz es H).take k).all (Blk.below k) = true) (hI : I m' (fun t => qe0 k (frz j sz es (s t))) ((frzH j sz es H).take k)) :
  Out (xF0 (fun s' H' => ∃ m' s2 H2, m' < m ∧ Weak n0 (Lst n s') H' (Lst n s2) H2 ∧ I m' s2 H2) Q) .normal B s H := by
 refine ⟨hB, m', _, _, hm, ?_, hI⟩;have h1 : Weak n0 (Lst n s) H (Lst n fun x => frz j sz es (s x)) (frzH j sz es H) := xau9 hb;have h2 : Weak n0 (Lst n fun x => frz j sz es (s x)) (frzH j sz es H) (Lst n fun t => qe0 k (frz j sz es (s t))) ((frzH j sz es H).take k) := wO0 hn (by simpa [frzH] using hk) hbl;exact h1.trans h2
def kp0 (z : Nat) (t : TypeId) (rss : List (List (List AV))) : List Blk := rss.map fun es => .row z t es
theorem xd0 (z : Nat) (t : TypeId) (rss : List (List (List AV))) : (kp0 z t rss).length = rss.length := by simp [kp0]
theorem xdo9 (z : Nat) (t : TypeId) : kp0 z t [] = [] := rfl
section
variable {z N q : Nat} {t : TypeId} {rss : List (List (List AV))}
theorem kbv9 (hN : rss.length = N) (hq : q < N) : (kp0 z t rss)[q]? = some (.row z t (rss.getD q [])) := by
 have : q < rss.length := by omega
 simp [kp0, this]
theorem zcY9 (K : List Blk) (hN : rss.length = N) (hq : q < N) : (kp0 z t rss ++ K)[q]? = some (.row z t (rss.getD q [])) := by
 rw [List.getElem?_append_left (by rw [xd0]; omega)]; exact kbv9 hN hq
theorem wdo9 (es : List (List AV)) : (kp0 z t rss).set q (.row z t es) = kp0 z t (rss.set q es) := by
 simp [kp0, List.map_set]
theorem xcY9 (es : List (List AV)) (K : List Blk) (hN : rss.length = N) (hq : q < N) : (kp0 z t rss ++ K).set q (.row z t es) = kp0 z t (rss.set q es) ++ K := by
 rw [List.set_append_left _ _ (by rw [xd0]; omega), wdo9]
theorem vdo9 (K : List Blk) (hN : rss.length = N) (j : Nat) : (kp0 z t rss ++ K)[N + j]? = K[j]? := by
 rw [List.getElem?_append_right (by rw [xd0]; omega), xd0, hN, Nat.add_sub_cancel_left]
theorem kbZ9 (A : Blk) (K : List Blk) (hN : rss.length = N) : (kp0 z t rss ++ A :: K)[N]? = some A := vdo9 (A :: K) hN 0
theorem kdo9 (A B : Blk) (K : List Blk) (hN : rss.length = N) : (kp0 z t rss ++ A :: B :: K)[N + 1]? = some B := vdo9 (A :: B :: K) hN 1
theorem qbw9 (K : List Blk) (B : Blk) (hN : rss.length = N) (j : Nat) : (kp0 z t rss ++ K).set (N + j) B = kp0 z t rss ++ K.set j B := by
 rw [List.set_append_right _ _ (by rw [xd0]; omega), xd0, hN, Nat.add_sub_cancel_left]
theorem qca9 (A B : Blk) (K : List Blk) (hN : rss.length = N) : (kp0 z t rss ++ A :: K).set N B = kp0 z t rss ++ B :: K := qbw9 (A :: K) B hN 0
theorem zca9 (A A1 B : Blk) (K : List Blk) (hN : rss.length = N) : (kp0 z t rss ++ A :: A1 :: K).set (N + 1) B = kp0 z t rss ++ A :: B :: K := qbw9 (A :: A1 :: K) B hN 1
theorem xca9 (es : List (List AV)) : kp0 z t rss ++ [.row z t es] = kp0 z t (rss ++ [es]) := by simp [kp0]
theorem qcy9 {m : Nat} (h : ∀ es ∈ rss, idsE (fun b => decide (b < m)) es = true) : (kp0 z t rss).all (Blk.below m) = true := by
 rw [kp0, List.all_map, List.all_eq_true];exact fun es hes => h es hes
end
def ownR (b0 I : Nat) (c : Option Nat) (N : Nat) : List (List AV) := (List.range N).map fun s => [.own (s + b0) I I c]
theorem ka0 (b0 I : Nat) (c : Option Nat) (N : Nat) : (ownR b0 I c N).length = N := by simp [ownR]
theorem zcy9 (b0 I : Nat) (c : Option Nat) : ownR b0 I c 0 = [] := rfl
theorem wau9 {b0 I N k : Nat} (c : Option Nat) (h : k < N) : (ownR b0 I c N).getD k [] = [.own (k + b0) I I c] := by simp [ownR, h]
theorem kaZ9 (b0 I : Nat) (c : Option Nat) (N : Nat) : ownR b0 I c N ++ [[.own (N + b0) I I c]] = ownR b0 I c (N + 1) := by simp [ownR, List.range_succ]
theorem xcy9 {b0 I N m : Nat} (c : Option Nat) (h : N + b0 ≤ m) : idsE (fun b => decide (b < m)) (ownR b0 I c N) = true := by
 rw [xq0];intro e he;obtain ⟨s, hs, rfl⟩ := List.mem_map.1 he;have := List.mem_range.1 hs;simp [idsL, AV.ids]; omega
theorem qba9 {b0 I N n : Nat} (c : Option Nat) (h : n ≤ N) : (ownR b0 I c N).take n = ownR b0 I c n := by
 rw [ownR, ← List.map_take, List.take_range, Nat.min_eq_left h]; rfl
theorem qbJ9 {H : List Blk} {b0 I N z : Nat} {t : TypeId} {c : Option Nat} {rss : List (List (List AV))} (hH : ∀ s, s < N → H[s + b0]? = some (.row z t (rss.getD s []))) (hl : ∀ s, s < N → (rss.getD s []).length = I) :
  ((ownR b0 I c N).map fun e => e.map (kh0 H 1)) = (List.range N).map fun s => [.sl z (rss.getD s []) c] := by
 rw [ownR, List.map_map];refine List.map_congr_left fun s hs => ?_;have hs := List.mem_range.1 hs;have : ∀ es : List (List AV), es.map (fun e => e.map (kh0 H 0)) = es := fun es => by
  have h0 : kh0 H 0 = id := by funext v; simp [kh0]
  simp [h0]
 simp only [Function.comp, List.map_cons, List.map_nil, kh0, hH s hs];rw [List.take_of_length_le (by rw [hl s hs]; exact Nat.le_refl _)];have h1 := this (rss.getD s []);simp only [kh0] at h1;rw [h1]
theorem wcY9 {H : List Blk} {b0 I N z : Nat} {t : TypeId} {c : Option Nat} {rss : List (List (List AV))} (hH : ∀ s, s < N → H[s + b0]? = some (.row z t (rss.getD s []))) (hl : ∀ s, s < N → (rss.getD s []).length = I) (hc : ∀ s, s < N → idsE kX0 (rss.getD s []) = true) :
  ((ownR b0 I c N).all fun e => e.all (okC H 1)) = true := by
 rw [ownR, List.all_map, List.all_eq_true];intro s hs;have hs := List.mem_range.1 hs;have h1 := hH s hs;have h2 := hl s hs;simp only [Function.comp, List.all_cons, List.all_nil, Bool.and_true, okC, zj0, shOf, h1, h2, beq_self_eq_true, Bool.true_and];rw [List.all_eq_true];intro e he;have hm : e ∈ rss.getD s [] := List.mem_of_mem_take he;rw [List.all_eq_true];intro x hx;exact (qY0 e).1 ((xq0 _).1 (hc s hs) e hm) x hx
end Go.V
namespace Go.V
abbrev a0_ := @kY0
abbrev a1_ := @xcu9
abbrev a2_ := @vcV9
abbrev a3_ := @qcW9
abbrev a4_ := @vcu9
abbrev ak_ := @wbU9
abbrev a5_ := @vdm9
abbrev a6_ := @kdm9
abbrev a7_ := @wdm9
abbrev a8_ := @wcu9
abbrev a9_ := @kbU9
abbrev g0_ := @zdw9
abbrev g1_ := @zdm9
abbrev g2_ := @go_region
abbrev g4_ := @wcV9
abbrev g5_ := @vct9
abbrev g6_ := @go_skip
abbrev g7_ := @go_ret
abbrev g8_ := @zcV9
abbrev o0_ := @qdm9
abbrev o1_ := @kct9
abbrev o2_ := @zaW9
abbrev o3_ := @kaK9
abbrev o4_ := @zaL9
abbrev o5_ := @zbU9
abbrev o6_ := @waz9
abbrev o7_ := @xas9
abbrev o8_ := @qaL9
abbrev o9_ := @xaz9
abbrev oa_ := @zcW9
abbrev ob_ := @wbF9
abbrev oc_ := @zcv9
abbrev od_ := @qbl9
abbrev oe_ := @vcW9
abbrev of_ := @vcx9
abbrev og_ := @kbI9
end Go.V
namespace Go.V
open Go Go.RowKit
mutual
theorem zbw9 {p q : Nat → Bool} (h : ∀ b, p b = true → q b = true) : ∀ a : AV, a.ids p = true → a.ids q = true
 | .own b _ _ _, ha => by simp only [AV.ids] at ha ⊢; exact h b ha
 | .ptr b _ _ _, ha => by simp only [AV.ids] at ha ⊢; exact h b ha
 | .sub b _ _ _, ha => by simp only [AV.ids] at ha ⊢; exact h b ha
 | .mp b, ha => by simp only [AV.ids] at ha ⊢; exact h b ha
 | .yld b, ha => by simp only [AV.ids] at ha ⊢; exact h b ha
 | .agg cs, ha => by simp only [AV.ids] at ha ⊢; exact vz0 h cs ha
 | .tup cs, ha => by simp only [AV.ids] at ha ⊢; exact vz0 h cs ha
 | .sl _ es _, ha => by simp only [AV.ids] at ha ⊢; exact zba9 h es ha
 | .iptr cs _, ha => by simp only [AV.ids] at ha ⊢; exact vz0 h cs ha
 | .fn _ cs, ha => by simp only [AV.ids] at ha ⊢; exact vz0 h cs ha
 | .bnd _ cs, ha => by simp only [AV.ids] at ha ⊢; exact vz0 h cs ha
 | .opt _ v, ha => by simp only [AV.ids] at ha ⊢; exact zbw9 h v ha
 | .int _ _, _ => rfl
 | .bool _, _ => rfl
 | .str _, _ => rfl
 | .top, _ => rfl
 | .anyb, _ => rfl
 | .lit _, _ => rfl
 | .anyi _, _ => rfl
 | .err, _ => rfl
theorem vz0 {p q : Nat → Bool} (h : ∀ b, p b = true → q b = true) : ∀ as : List AV, idsL p as = true → idsL q as = true
 | [], _ => rfl
 | a :: as, ha => by
  simp only [idsL, Bool.and_eq_true] at ha ⊢;exact ⟨zbw9 h a ha.1, vz0 h as ha.2⟩
theorem zba9 {p q : Nat → Bool} (h : ∀ b, p b = true → q b = true) : ∀ es : List (List AV), idsE p es = true → idsE q es = true
 | [], _ => rfl
 | e :: es, ha => by
  simp only [idsE, Bool.and_eq_true] at ha ⊢;exact ⟨vz0 h e ha.1, zba9 h es ha.2⟩
end
section
variable {n N z z2 I : Nat} {t t2 : TypeId} {c : Option Nat} {B : List Blk}
end
end Go.V
namespace Go.V
open Go Go.RowKit Go.ChangeShapes Go.WideShapes Go.ChangeAt
def View.array2 {P : Program} {t e : TypeId} {α : Type} (c : Nat) (hu : P.underlying t = some (.array 2 e)) (hc : P.cellsOf e = c) (ht : P.cellsOf t = c + c) (v : View P e α) : View P t (α × α) where
 tq y := v.tq y.1 ++ v.tq y.2
 ok y := v.ok y.1 ∧ v.ok y.2
 get {H enc w fuel cs x} h := by
  obtain ⟨xs, m, rfl, _, h1, h2, h3⟩ := DataW.trod_array hu h;have a0 := h3 0 (by omega);have a1 := h3 1 (by omega);rw [hc, List.getElem?_eq_getElem (by omega)] at a0 a1;rw [Nat.zero_mul, List.drop_zero] at a0;rw [Nat.one_mul, List.take_of_length_le (by rw [List.length_drop]; omega)] at a1;obtain ⟨y1, q1, q2, q3⟩ := v.get a0;obtain ⟨y2, p1, p2, p3⟩ := v.get a1;have e : cs = cs.take c ++ cs.drop c := (List.take_append_drop c cs).symm;refine ⟨(y1, y2), ⟨q1, p1⟩, ?_, ?_⟩
  ·rw [e]; exact q2.append p2
  ·rw [e]; intro u hu;rcases List.mem_append.1 hu with q|q
   ·exact q3 u q
   ·exact p3 u q
end Go.V
namespace Go.V
open Go Go.RowKit
def updF {α : Type} (f : Nat → α) (q : Nat) (v : α) : Nat → α := fun s => if s = q then v else f s
def zdG9 (f : Nat → AV) (N : Nat) : List (List AV) := (List.range N).map fun s => [f s]
def kdG9 (z : Nat) (t : TypeId) (g : Nat → List (List AV)) (N : Nat) : List Blk := (List.range N).map fun s => .row z t (g s)
section
variable {z N q : Nat} {t : TypeId} {g : Nat → List (List AV)}
end
section
variable {P : Program} {G : Glob} {q : Operand → Bool}
variable {ops : List Oper} {md : Region.Mode} {rs : List (Nat × Nat)} {K : List AV → List Blk → Prop}
def wcL9 (P : Program) (G : Glob) (q : Operand → Bool) (ops : List Oper) (rs : List (Nat × Nat)) (o : Oper) (a : List AV) (H : List Blk) (r : AV) (H' : List Blk) : Prop :=
 vaU9 P G q ops o a H r H' ∧ (val9 rs o = true → ∀ H2, kn0 P G ops o a H2 r H2)
def vdw9 (P : Program) (G : Glob) (q : Operand → Bool) (ops : List Oper) (rs : List (Nat × Nat)) (md : Region.Mode) (K : List AV → List Blk → Prop) : Nat → Array Bool → List AV → List Blk → Prop
 | 0, listed, a, H => Region.ready md ops.toArray listed = [] ∧ K a H
 | fuel + 1, listed, a, H => (Region.ready md ops.toArray listed = [] → K a H) ∧
   ∀ i ∈ Region.ready md ops.toArray listed, ∃ o, ops[i]? = some o ∧ ∃ r H', wcL9 P G q ops rs o a H r H' ∧ vdw9 P G q ops rs md K fuel (listed.setIfInBounds i true) (putA a o.dst r) H'
def lexI (q : Operand → Bool) (rs : List (Nat × Nat)) (md : Region.Mode) (ops : Array Oper) (T : Nat) : Nat → Nat → Array Bool → Bool
 | 0, _, listed => (Region.ready md ops listed).isEmpty
 | n + 1, k, listed => decide (k < 256) && (Region.ready md ops listed).contains k &&
   ((List.range ops.size).all fun j => j == k || listed.getD j true || T.testBit (j * 256 + k) ||
    (match ops[k]?, ops[j]? with|some ok, some oj => (vbi9 q ok.op oj.op || (val9 rs ok || val9 rs oj)) && ok.apart ops oj|_, _ => false)) &&
   lexI q rs md ops T n (k + 1) (listed.setIfInBounds k true)
def wcy9 (q : Operand → Bool) (rs : List (Nat × Nat)) (ops : List Oper) : Bool :=
 match ancT .any ops 0 0 with
 | 0 => lexI q rs .any ops.toArray 0 ops.length 0 (Array.replicate ops.length false)
 | n + 1 => lexI q rs .any ops.toArray (n + 1) ops.length 0 (Array.replicate ops.length false)
def qdp9 (P : Program) (G : Glob) (q : Operand → Bool) (ops : List Oper) (rs : List (Nat × Nat)) (K : List AV → List Blk → Prop) : List Oper → List AV → List Blk → Prop
 | [], a, H => K a H
 | o :: rest, a, H => ∃ r H', wcL9 P G q ops rs o a H r H' ∧ qdp9 P G q ops rs K rest (putA a o.dst r) H'
def immC (rs : List (Nat × Nat)) (a : List AV) : Prop := ∀ x ∈ rs, topB (getA a x.2).strip = none
end
section
variable {P : Program} {G : Glob} {ρ : Bool} {n0 : Nat} {Q : Post} {a : List AV} {H : List Blk}
end
def immB : List (Nat × Nat) → (Nat → AV) → Bool
 | [], _ => true
 | (_, x) :: rs, s => (topB (s x).strip).isNone && immB rs s
def immQ (rs : List (Nat × Nat)) (Q : xn0) : xn0 := fun e s H => Q e s H ∧ immB rs s = true
section
variable {ρ : Bool} {P : Program} {G : Glob} {n0 n : Nat} {body : Code} {p : List Nat} {Q : xn0} {B : Prop} {s : Nat → AV} {H : List Blk} {dr : Operand → Bool}
def kdw9 (dr : Operand → Bool) (rs : List (Nat × Nat)) (ops : List Oper) : Bool := wcy9 dr rs ops && xaF9 rs [] ops
theorem vcY9 {rs : List (Nat × Nat)} (h : Out Q .normal (B ∧ immB rs s = true) s H) : Out (immQ rs Q) .normal B s H := ⟨h.1.1, h.2, h.1.2⟩
end
attribute [push_cast] immB
end Go.V
namespace Go.V
abbrev oh_ := @vcY9
end Go.V
namespace Go.V
open Go Go.RowKit
section
variable {P : Program} {b : Frame} {a : Act} {k : List Item} {cs : List Frame} {w : World}
theorem ku0 {c : Code} : step P (lone (b.atR a (.code (.scope c) :: k)) cs w) = .next (lone (b.atR a (.code c :: .inScope c :: k)) cs w) :=
 step_lone_go (by simp [stepG, stepG.exec, Frame.atR])
theorem vaM9 {c : Code} : step P (lone (b.atR a (.inScope c :: k)) cs w) = .next (lone (b.atR a k) cs w) :=
 step_lone_go (by simp [stepG, stepG.exec, Frame.atR])
end
theorem zbJ9 {F : Fence} {n : Nat} {P : Program} {Q : Exit → Act → World → Prop} {a : Act} {w : World} {c : Code} (h : c.wpIn F n P (Exit.noGoto Q) a w) : (Code.scope c).wpIn F n P Q a w := by
 intro b k cs hro hb hr;have h0 : (lone (b.atR a (.code (.scope c) :: k)) cs w).fenced P F := fenced_calm hb hr rfl;obtain ⟨e, a₁, w₁, hq, harr⟩ := h b (.inScope c :: k) cs hro hb hr;cases e with
 | normal => exact ⟨.normal, a₁, w₁, hq, .head h0 ku0 (StepsIn.trans harr (.one (fenced_calm hb hr rfl) vaM9))⟩
 | exit id =>
  have hx : exitTo id (.inScope c :: k) = exitTo id k := by simp [exitTo]
  exact ⟨_, a₁, w₁, hq, fun k' hk => .head h0 ku0 (harr.1 k' (by rw [hx]; exact hk)),
   fun hr' hk => let ⟨k₁, h1, h2⟩ := harr.2 hr' (by rw [hx]; exact hk); ⟨k₁, h1, .head h0 ku0 h2⟩⟩
 | goto l => exact hq.elim
 | ret => exact ⟨_, a₁, w₁, hq, .of_steps (.one h0 ku0) harr⟩
 | panic ch => exact ⟨_, a₁, w₁, hq, .of_steps (.one h0 ku0) harr⟩
 | outgrown => exact ⟨_, a₁, w₁, hq, .of_steps (.one h0 ku0) harr⟩
def vbm9 (Q : Post) : Post
 | .goto _, _, _ => False
 | e, a, H => Q e a H
def wag9 (Q : xn0) : xn0
 | .goto _, _, _ => False
 | e, s, H => Q e s H
section
variable {ρ : Bool} {P : Program} {G : Glob} {n0 n : Nat} {H : List Blk}
theorem wca9 {Q : Post} {a : List AV} {c : Code} (h : AWp ρ P G n0 c (vbm9 Q) a H) : AWp ρ P G n0 (.scope c) Q a H := fun ro S act hr h1 h2 h3 h4 =>
 zbJ9 (wpIn_mono (h ro S act hr h1 h2 h3 h4) fun e act' w' he => by
  cases e with
  | goto l =>
   obtain ⟨a', H', S', _, q, _⟩ := he;exact q.elim
  | _ => exact he)
variable {body : Code} {p : List Nat} {Q : xn0} {B : Prop} {s : Nat → AV}
theorem xba9 (n : Nat) (Q : xn0) : vY0 n (wag9 Q) = vbm9 (vY0 n Q) := by
 funext e a H
 cases e with
 | goto l => simp [vY0, wag9, vbm9]
 | _ => rfl
def kcY9 : Code → Bool
 | .scope _ => true
 | _ => false
def qcZ9 : Code → Bool
 | .label _ => true
 | _ => false
theorem kaM9 (hs : kcY9 (atR body p) = true) (h : Go ρ P G n0 n body (0 :: p) (wag9 Q) B s H) : Go ρ P G n0 n body p Q B s H := by
 refine ⟨h.1, ?_⟩;have h2 := h.2;unfold At at h2 ⊢;simp only [atR] at h2;rw [xba9] at h2;generalize atR body p = c at *;cases c with
 | scope c => exact wca9 h2
 | _ => cases hs
theorem qaN9 (hs : qcZ9 (atR body p) = true) (h : Out Q .normal B s H) : Go ρ P G n0 n body p Q B s H := by
 refine ⟨h.1, ?_⟩;unfold At;generalize atR body p = c at *;cases c with
 | label l => exact kaU9 ⟨_, rfl, h.2⟩
 | _ => cases hs
theorem vau9 (h : Out Q .normal B s H) : Out (wag9 Q) .normal B s H := ⟨h.1, h.2⟩
theorem kF0 (h : Out Q .ret B s H) : Out (wag9 Q) .ret B s H := ⟨h.1, h.2⟩
theorem wC0 {id : Nat} (h : Out Q (.exit id) B s H) : Out (wag9 Q) (.exit id) B s H := ⟨h.1, h.2⟩
end
abbrev ga_ := @kaM9
abbrev gb_ := @qaN9
abbrev oi_ := @vau9
abbrev oj_ := @kF0
abbrev ok_ := @wC0
section
variable {P : Program} {G : Glob}
end
end Go.V
namespace Go.V
open Go Go.RowKit Go.Lib
def qdx9 {H : Type} (zs : List (List UInt8)) : DataW H := .agg (zs.map fun z => .lit (.string z))
end Go.V
