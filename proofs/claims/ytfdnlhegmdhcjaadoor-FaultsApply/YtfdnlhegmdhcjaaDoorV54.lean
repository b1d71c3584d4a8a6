/- The library V, part 54: a package-level array of structs of a text and three flags, out of a row's list. -/
import Derived.Test.YtfdnlhegmdhcjaaDoorV51
import Derived.Test.YtfdnlhegmdhcjaaDoorV44
import Derived.Lib.SmallJoins
set_option linter.unusedVariables false
set_option linter.unusedSimpArgs false
namespace Go.V
open Go Go.RowKit
def St.glue (S S' : St) (n : Nat) : St := { S' with μ := fun b => if b < n then S'.μ b else S.μ b, ν := fun b => if b < n then S'.ν b else S.ν b }
section
variable {P : Program} {G : Glob}
theorem glue_frame {S S' : St} {H H' E : List Blk} (hok : S.Ok (H ++ E)) (hok' : S'.Ok H') (hext : Ext H.length S H S' H') (hl : H'.length = H.length) :
  (S.glue S' H.length).Ok (H' ++ E) ∧ Ext (H ++ E).length S (H ++ E) (S.glue S' H.length) (H' ++ E) ∧ (S'.env H').le ((S.glue S' H.length).env (H' ++ E)) := by
 generalize hn : H.length = n at *
 have g1 : ∀ b, b < n → (H' ++ E)[b]? = H'[b]? := fun b hb => List.getElem?_append_left (by omega)
 have g1' : ∀ b, b < n → (H ++ E)[b]? = H[b]? := fun b hb => List.getElem?_append_left (by omega)
 have g2 : ∀ b, ¬ b < n → (H' ++ E)[b]? = (H ++ E)[b]? := fun b hb => by rw [List.getElem?_append_right (by omega), List.getElem?_append_right (by omega), hl, hn]
 have m1 : ∀ b, b < n → (S.glue S' n).μ b = S'.μ b := fun b hb => if_pos hb
 have m2 : ∀ b, ¬ b < n → (S.glue S' n).μ b = S.μ b := fun b hb => if_neg hb
 have v1 : ∀ b, b < n → (S.glue S' n).ν b = S'.ν b := fun b hb => if_pos hb
 have v2 : ∀ b, ¬ b < n → (S.glue S' n).ν b = S.ν b := fun b hb => if_neg hb
 have a1 : ∀ b, b < n → (S.glue S' n).at (H' ++ E) b = S'.at H' b := fun b hb => by simp only [St.at, g1 b hb, m1 b hb, v1 b hb]
 have a1' : ∀ b, b < n → S.at (H ++ E) b = S.at H b := fun b hb => by simp only [St.at, g1' b hb]
 have a2 : ∀ b, ¬ b < n → (S.glue S' n).at (H' ++ E) b = S.at (H ++ E) b := fun b hb => by simp only [St.at, g2 b hb, m2 b hb, v2 b hb]
 have alt : ∀ b g, S.at H b = some g → b < n := fun b g q => by
  by_cases hb : b < n
  ·exact hb
  ·rw [St.at, List.getElem?_eq_none (by omega)] at q; cases q
 have ownH : ∀ k, S.Owns H k → S.Owns (H ++ E) k := fun k ⟨b, hb⟩ => ⟨b, by rw [a1' b (alt b k hb)]; exact hb⟩
 have sh1 : ∀ b, b < n → shOf (H' ++ E) b = shOf H' b := fun b hb => by simp only [shOf, g1 b hb]
 have sh1' : ∀ b, b < n → shOf (H ++ E) b = shOf H b := fun b hb => by simp only [shOf, g1' b hb]
 have sh2 : ∀ b, ¬ b < n → shOf (H' ++ E) b = shOf (H ++ E) b := fun b hb => by simp only [shOf, g2 b hb]
 have mp1 : ∀ b, b < n → mpOf (S.glue S' n).ν (H' ++ E) b = mpOf S'.ν H' b := fun b hb => by simp only [mpOf, g1 b hb, v1 b hb]
 have mp1' : ∀ b, b < n → mpOf S.ν (H ++ E) b = mpOf S.ν H b := fun b hb => by simp only [mpOf, g1' b hb]
 have mp2 : ∀ b, ¬ b < n → mpOf (S.glue S' n).ν (H' ++ E) b = mpOf S.ν (H ++ E) b := fun b hb => by simp only [mpOf, g2 b hb, v2 b hb]
 have hsh : ∀ b s cur, shOf (H ++ E) b = some (s, cur) → ∃ cur', cur ≤ cur' ∧ shOf (H' ++ E) b = some (s, cur') ∧ (cur' = cur → (S.glue S' n).μ b = S.μ b) := fun b s cur hs => by
  by_cases hb : b < n
  ·rw [sh1' b hb] at hs
   obtain ⟨c, q1, q2, q3⟩ := hext.sh b s cur hb hs
   exact ⟨c, q1, by rw [sh1 b hb]; exact q2, fun q => by rw [m1 b hb]; exact q3 q⟩
  ·exact ⟨cur, Nat.le_refl _, by rw [sh2 b hb]; exact hs, fun _ => m2 b hb⟩
 have hmp : ∀ b g, mpOf S.ν (H ++ E) b = some g → mpOf (S.glue S' n).ν (H' ++ E) b = some g := fun b g hs => by
  by_cases hb : b < n
  ·rw [mp1' b hb] at hs
   rw [mp1 b hb]; exact hext.ν b g hb hs
  ·rw [mp2 b hb]; exact hs
 have le1 : (S.env (H ++ E)).le ((S.glue S' n).env (H' ++ E)) := ⟨hext.M, hsh, hmp⟩
 have le2 : (S'.env H').le ((S.glue S' n).env (H' ++ E)) := ⟨fun _ _ q => q, fun b s cur hs => by
   have hb : b < n := by have := shOf_lt hs; omega
   exact ⟨cur, Nat.le_refl _, (sh1 b hb).trans hs, fun _ => m1 b hb⟩, fun b g hs => by
   have hb : b < n := by have := mpOf_lt hs; omega
   exact (mp1 b hb).trans hs⟩
 have hfree : ∀ b g, ¬ b < n → S.at (H ++ E) b = some g → ¬ S.Owns H g := fun b g hb hg ⟨b', hb'⟩ => by
  have q := alt b' g hb'
  have := hok.inj b b' g hg (by rw [a1' b' q]; exact hb')
  omega
 have hkeep : ∀ b g o, ¬ b < n → S.at (H ++ E) b = some g → S.M g = none → S.w.heap[g]? = some o → S'.M g = none ∧ S'.w.heap[g]? = some o := fun b g o hb hg hM ho => by
  have hlt : g < S.w.heap.size := (Array.getElem?_eq_some_iff.1 ho).1
  have hno := hfree b g hb hg
  refine ⟨?_, (hext.keep g hlt hno).trans ho⟩
  cases hM' : S'.M g with
  | none => rfl
  | some o' =>
   rcases hext.dom g (by rw [hM']; simp) with q|q|q
   ·exact absurd hM q
   ·exact absurd q hno
   ·omega
 refine ⟨⟨hok'.imm, fun b s t es hbb => ?_, fun b x hbb => ?_, fun b b' g q q' => ?_⟩, ⟨hext.os, hext.tape, hext.output, hext.size, fun k hk hno => hext.keep k hk fun q => hno (ownH k q), hext.M, fun k hk => ?_, fun k hk => ?_, fun b s cur _ hs => hsh b s cur hs, fun b g _ hs => hmp b g hs, fun _ => by simp [hl, hn]⟩, le2⟩
 ·by_cases hb : b < n
  ·rw [g1 b hb] at hbb
   rcases hok'.row b s t es hbb with q|⟨g, k, cs, h1, h2, h3, h4, h5, h6, h7⟩
   ·exact .inl ⟨by rw [m1 b hb]; exact q.1, q.2⟩
   ·exact .inr ⟨g, k, cs, by rw [m1 b hb]; exact h1, h2, h3, h4, h5, h6, h7.mono le2⟩
  ·rw [g2 b hb] at hbb
   rcases hok.row b s t es hbb with q|⟨g, k, cs, h1, h2, h3, h4, h5, h6, h7⟩
   ·exact .inl ⟨by rw [m2 b hb]; exact q.1, q.2⟩
   ·have hat : S.at (H ++ E) b = some g := by simp [St.at, hbb, h1]
    obtain ⟨k1, k2⟩ := hkeep b g _ hb hat h2 h3
    exact .inr ⟨g, k, cs, by rw [m2 b hb]; exact h1, k1, k2, h4, h5, h6, h7.mono le1⟩
 ·by_cases hb : b < n
  ·rw [g1 b hb] at hbb
   obtain ⟨g, o, h1, h2, h3, h4⟩ := hok'.ob b x hbb
   exact ⟨g, o, by rw [v1 b hb]; exact h1, h2, h3, h4.mono le2⟩
  ·rw [g2 b hb] at hbb
   obtain ⟨g, o, h1, h2, h3, h4⟩ := hok.ob b x hbb
   have hat : S.at (H ++ E) b = some g := by simp [St.at, hbb, h1]
   obtain ⟨k1, k2⟩ := hkeep b g _ hb hat h2 h3
   exact ⟨g, o, by rw [v2 b hb]; exact h1, k1, k2, h4.mono le1⟩
 ·by_cases hb : b < n
  ·by_cases hb' : b' < n
   ·rw [a1 b hb] at q; rw [a1 b' hb'] at q'
    exact hok'.inj b b' g q q'
   ·rw [a1 b hb] at q; rw [a2 b' hb'] at q'
    exfalso
    rcases hext.own g ⟨b, q⟩ with w|w
    ·exact hfree b' g hb' q' w
    ·have : g < S.w.heap.size := by
      unfold St.at at q'
      split at q'
      ·rename_i s t es he
       rcases hok.row b' s t es he with z|⟨g', k, cs, h1, h2, h3, _⟩
       ·rw [z.1] at q'; cases q'
       ·rw [h1] at q'; injection q' with q'; subst q'
        exact (Array.getElem?_eq_some_iff.1 h3).1
      ·rename_i x he
       obtain ⟨g', o, h1, h2, h3, _⟩ := hok.ob b' x he
       rw [h1] at q'; injection q' with q'; subst q'
       exact (Array.getElem?_eq_some_iff.1 h3).1
      ·cases q'
     omega
  ·by_cases hb' : b' < n
   ·rw [a2 b hb] at q; rw [a1 b' hb'] at q'
    exfalso
    rcases hext.own g ⟨b', q'⟩ with w|w
    ·exact hfree b g hb q w
    ·have : g < S.w.heap.size := by
      unfold St.at at q
      split at q
      ·rename_i s t es he
       rcases hok.row b s t es he with z|⟨g', k, cs, h1, h2, h3, _⟩
       ·rw [z.1] at q; cases q
       ·rw [h1] at q; injection q with q; subst q
        exact (Array.getElem?_eq_some_iff.1 h3).1
      ·rename_i x he
       obtain ⟨g', o, h1, h2, h3, _⟩ := hok.ob b x he
       rw [h1] at q; injection q with q; subst q
       exact (Array.getElem?_eq_some_iff.1 h3).1
      ·cases q
     omega
   ·rw [a2 b hb] at q; rw [a2 b' hb'] at q'
    exact hok.inj b b' g q q'
 ·rcases hext.dom k hk with q|q|q
  ·exact .inl q
  ·exact .inr (.inl (ownH k q))
  ·exact .inr (.inr q)
 ·obtain ⟨b, hb'⟩ := hk
  by_cases hb : b < n
  ·rw [a1 b hb] at hb'
   rcases hext.own k ⟨b, hb'⟩ with q|q
   ·exact .inl (ownH k q)
   ·exact .inr q
  ·rw [a2 b hb] at hb'
   exact .inl ⟨b, hb'⟩
theorem take_left (H E : List Blk) : (H ++ E).take H.length = H := by simp
theorem ay_frame {b : Nat} {args : List AV} {H H' : List Blk} {r : AV} (h : AYield P G b args H r H') (E : List Blk) (hl : H'.length = H.length) (hids : idsL (fun b => decide (b < H.length)) args = true) (hb : H.all (Blk.below H.length) = true) (hbl : b < H.length) : AYield P G b args (H ++ E) r (H' ++ E) := by
 intro S vals l hok hG ha hm
 have hle : H.length ≤ (H ++ E).length := by simp
 obtain ⟨hokH, _⟩ := take_ok (n0 := H.length) hok (Nat.le_refl _) hle (by rw [take_left]; exact hb)
 rw [take_left] at hokH
 have hag := env_take (m := H.length) S (H ++ E)
 rw [take_left] at hag
 have ha' := RelL.move hag _ _ hids ha
 have hm' : mpOf S.ν H b = some l := by
  have : mpOf S.ν (H ++ E) b = mpOf S.ν H b := by simp only [mpOf, List.getElem?_append_left hbl]
  rw [← this]; exact hm
 obtain ⟨fn, tmps, assign, body, h1, h2⟩ := h S vals l hokH hG ha' hm'
 refine ⟨fn, tmps, assign, body, h1, h2.mono fun e w' ⟨v, S', he, hw, hok', hext, hr⟩ => ?_⟩
 obtain ⟨q1, q2, q3⟩ := glue_frame hok hok' hext hl
 exact ⟨v, S.glue S' H.length, he, hw, q1, q2, hr.mono q3⟩
theorem ac_frame {f : FuncId} {args : List AV} {H H' : List Blk} {r : AV} (h : ACalls P G f args H r H') (E : List Blk) (hl : H'.length = H.length) (hids : idsL (fun b => decide (b < H.length)) args = true) (hb : H.all (Blk.below H.length) = true) : ACalls P G f args (H ++ E) r (H' ++ E) := by
 intro S vals hok hG ha
 have hle : H.length ≤ (H ++ E).length := by simp
 obtain ⟨hokH, _⟩ := take_ok (n0 := H.length) hok (Nat.le_refl _) hle (by rw [take_left]; exact hb)
 rw [take_left] at hokH
 have hag := env_take (m := H.length) S (H ++ E)
 rw [take_left] at hag
 have ha' := RelL.move hag _ _ hids ha
 refine (h S vals hokH hG ha').mono fun e w' ⟨v, S', he, hw, hok', hext, hr⟩ => ?_
 obtain ⟨q1, q2, q3⟩ := glue_frame hok hok' hext hl
 exact ⟨v, S.glue S' H.length, he, hw, q1, q2, Rel.mono q3 _ _ hr⟩
end
end Go.V
set_option linter.unusedVariables false
set_option linter.unusedSimpArgs false
namespace Go.V
open Go Go.RowKit
theorem below_le {k m : Nat} (hk : k ≤ m) {B : List Blk} (h : B.all (Blk.below k) = true) : B.all (Blk.below m) = true := by
 rw [List.all_eq_true] at h ⊢
 have hp : ∀ b, decide (b < k) = true → decide (b < m) = true := fun b q => by rw [decide_eq_true_eq] at q ⊢; omega
 intro x hx
 have hx := h x hx
 match x, hx with
 | .row _ _ es, hx => exact idsE_mono hp es hx
 | .ob (.map _ _ es), hx =>
  simp only [Blk.below, List.all_eq_true] at hx ⊢
  intro p q
  have := hx p q
  rw [Bool.and_eq_true] at this ⊢
  exact ⟨ids_mono hp _ this.1, ids_mono hp _ this.2⟩
 | .ob (.loop _ as _), hx => exact idsL_mono hp as hx
theorem ay_own {P : Program} {G : Glob} {b : Nat} {args : List AV} {H H' : List Blk} {r : AV} (h : AYield P G b args H r H') (hH : H.length = b + 1 ∧ H.all (Blk.below b) = true) (hH' : H'.length = b + 1) (hc : idsL none_ args = true) (E : List Blk) : AYield P G b args (H ++ E) r (H' ++ E) :=
 ay_frame h E (by omega) (idsL_mono (fun b q => by cases q) args hc) (below_le (by omega) hH.2) (by omega)
theorem ac_dropT {P : Program} {G : Glob} {f : FuncId} {args : List AV} {H H' K : List Blk} {r : AV} (h : ACalls P G f args H r (H' ++ K)) (hl : H'.length = H.length) (hb : H'.all (Blk.below H.length) = true) (hr : r.ids (fun b => decide (b < H.length)) = true) : ACalls P G f args H r H' := fun S vals hok hG ha => by
 refine (h S vals hok hG ha).mono fun e w' ⟨v, S', he, hw, hok', hext, hrel⟩ => ?_
 have ht : (H' ++ K).take H.length = H' := List.take_left' hl
 obtain ⟨h1, h2⟩ := take_ok (n0 := H.length) (m := H.length) hok' (Nat.le_refl _) (by simp [hl]) (by rw [ht]; exact hb)
 have hag := env_take (m := H.length) S' (H' ++ K)
 rw [ht] at h1 h2 hag
 exact ⟨v, S', he, hw, h1, hext.trans h2, Rel.move hag r v hr hrel⟩
end Go.V
set_option linter.unusedVariables false
set_option linter.unusedSimpArgs false
namespace Go.V
open Go Go.RowKit Go.Lib
abbrev Kd := List UInt8 × Bool × Bool × Bool
def kdData {H : Type} (zs : List Kd) : DataW H := .agg (zs.map fun z => .agg [.lit (.string z.1), .lit (.bool z.2.1), .lit (.bool z.2.2.1), .lit (.bool z.2.2.2)])
def kdCells (z : Kd) : List Value := [.string ⟨z.1.toArray⟩, .bool z.2.1, .bool z.2.2.1, .bool z.2.2.2]
theorem flat_chunks {α β : Type} (C : β → List α) (hC : ∀ z, (C z).length = 4) : ∀ (zs : List β) (cs : List α), cs.length = zs.length * 4 → (∀ i z, zs[i]? = some z → (cs.drop (i * 4)).take 4 = C z) → cs = zs.flatMap C
 | [], cs, hl, _ => by simpa using hl
 | z :: zs, cs, hl, h => by
  rw [List.length_cons, Nat.succ_mul] at hl
  have h0 := h 0 z rfl
  rw [Nat.zero_mul, List.drop_zero] at h0
  rw [List.flatMap_cons, ← h0, ← flat_chunks C hC zs (cs.drop 4) (by rw [List.length_drop]; omega) fun i z hz => by
   have := h (i + 1) z (by simpa using hz)
   rw [List.drop_drop]
   rw [show 4 + i * 4 = (i + 1) * 4 by omega]
   exact this, List.take_append_drop]
section
variable {H : Type} {enc : TypeId × Value → H} {P : Program} {w : World} {base : Nat} {sp : Nat → Bool} {held : Bool}
theorem cells_of_kd {fuel : Nat} {e tb ts : TypeId} {f0 f1 f2 f3 : Field} {cs : List Value} {z : Kd} {p : List MemPlace} (he : P.underlying e = some (.struct #[f0, f1, f2, f3]))
  (h0 : f0.type = ts ∧ f0.offset = 0) (h1 : f1.type = tb ∧ f1.offset = 1) (h2 : f2.type = tb ∧ f2.offset = 2) (h3 : f3.type = tb ∧ f3.offset = 3) (hts : P.underlying ts = some .string) (htb : P.underlying tb = some .bool)
  (cs1 : P.cellsOf ts = 1) (cb1 : P.cellsOf tb = 1) (ce : P.cellsOf e = 4)
  (h : DataW.trod enc P w base sp held fuel e cs = some ((.agg [.lit (.string z.1), .lit (.bool z.2.1), .lit (.bool z.2.2.1), .lit (.bool z.2.2.2)] : DataW H), p)) : cs = kdCells z := by
 obtain ⟨y0, y1, y2, y3, n, hx, hl, q0, q1, q2, q3⟩ := Go.Joins.trod_struct4 he h
 rw [h0.1, h0.2, cs1] at q0
 rw [h1.1, h1.2, cb1] at q1
 rw [h2.1, h2.2, cb1] at q2
 rw [h3.1, h3.2, cb1] at q3
 obtain ⟨s, c0, rfl, _⟩ := DataW.trod_string hts q0
 obtain ⟨b1, c1, rfl⟩ := DataW.trod_bool htb q1
 obtain ⟨b2, c2, rfl⟩ := DataW.trod_bool htb q2
 obtain ⟨b3, c3, rfl⟩ := DataW.trod_bool htb q3
 rw [ce] at hl
 match cs, hl with
 | [a, b, c, d], _ =>
  simp at c0 c1 c2 c3 hx
  obtain ⟨⟨e0, e1, e2, e3⟩, _⟩ := hx
  subst c0; subst c1; subst c2; subst c3
  simp [kdCells, e0, e1, e2, e3]
theorem cells_of_kds {fuel : Nat} {t e tb ts : TypeId} {n : Nat} {f0 f1 f2 f3 : Field} {cs : List Value} {zs : List Kd} {p : List MemPlace}
  (ht : P.underlying t = some (.array n e)) (he : P.underlying e = some (.struct #[f0, f1, f2, f3]))
  (h0 : f0.type = ts ∧ f0.offset = 0) (h1 : f1.type = tb ∧ f1.offset = 1) (h2 : f2.type = tb ∧ f2.offset = 2) (h3 : f3.type = tb ∧ f3.offset = 3) (hts : P.underlying ts = some .string) (htb : P.underlying tb = some .bool)
  (cs1 : P.cellsOf ts = 1) (cb1 : P.cellsOf tb = 1) (ce : P.cellsOf e = 4) (ct : P.cellsOf t = n * 4)
  (h : DataW.trod enc P w base sp held fuel t cs = some (kdData zs, p)) : cs = zs.flatMap kdCells := by
 cases fuel with
 | zero => simp [DataW.trod] at h
 | succ fuel =>
  simp only [DataW.trod, ht, ce, ct] at h
  split at h
  ·rename_i hl
   obtain ⟨xs, hm, hx⟩ := Option.map_eq_some_iff.1 h
   have hxs : xs.map (·.1) = zs.map fun z => (.agg [.lit (.string z.1), .lit (.bool z.2.1), .lit (.bool z.2.2.1), .lit (.bool z.2.2.2)] : DataW H) := by
    have := congrArg Prod.fst hx
    simpa [kdData] using this
   have hxl : xs.length = n := by simpa using mapM_length hm
   have hzl : zs.length = n := by
    have := congrArg List.length hxs
    simp at this
    omega
   refine flat_chunks kdCells (fun _ => rfl) zs cs (by rw [hzl]; simpa using hl) fun i z hz => ?_
   have hi : i < n := by have := (List.getElem?_eq_some_iff.1 hz).1; omega
   obtain ⟨b, hb, hf⟩ := mapM_at hm i i (by simp [hi])
   have h2 : (xs.map (·.1))[i]? = some b.1 := by simp [hb]
   rw [hxs] at h2
   simp only [List.getElem?_map, hz, Option.map_some, Option.some.injEq] at h2
   obtain ⟨b1, b2⟩ := b
   simp only at h2
   subst h2
   exact cells_of_kd he h0 h1 h2 h3 hts htb cs1 cb1 ce hf
  ·cases h
end
theorem kds_of_head {P : Program} {W : World} {name : String} {zs : List Kd} {rest : List (String × DataW Unit)} {g : Nat} {t e tb ts : TypeId} {n : Nat} {f0 f1 f2 f3 : Field}
  (hg : P.globalNamed name = some g) (hty : (P.globals[g]?).map (·.type) = some t) (ht : P.underlying t = some (.array n e)) (he : P.underlying e = some (.struct #[f0, f1, f2, f3]))
  (h0 : f0.type = ts ∧ f0.offset = 0) (h1 : f1.type = tb ∧ f1.offset = 1) (h2 : f2.type = tb ∧ f2.offset = 2) (h3 : f3.type = tb ∧ f3.offset = 3) (hts : P.underlying ts = some .string) (htb : P.underlying tb = some .bool)
  (cs1 : P.cellsOf ts = 1) (cb1 : P.cellsOf tb = 1) (ce : P.cellsOf e = 4) (ct : P.cellsOf t = n * 4)
  (h : laidMet P ((name, kdData zs) :: rest) W) : W.var? P name = some (zs.flatMap kdCells).toArray := by
 obtain ⟨ps, ⟨g', t', cs, fuel, p, q, hg', ht', hvar, hd, _, _⟩, _⟩ := h
 obtain rfl := Option.some.inj (hg.symm.trans hg')
 obtain rfl := Option.some.inj (hty.symm.trans ht')
 rw [hvar, ← cells_of_kds ht he h0 h1 h2 h3 hts htb cs1 cb1 ce ct hd]
theorem relL_kds (E : Env) : ∀ zs : List Kd, RelL E (zs.flatMap fun z => [AV.str z.1, .bool z.2.1, .bool z.2.2.1, .bool z.2.2.2]) (zs.flatMap kdCells)
 | [] => rfl
 | z :: zs => ⟨_, _, rfl, rfl, _, _, rfl, rfl, _, _, rfl, rfl, _, _, rfl, rfl, relL_kds E zs⟩
theorem oneCell_kds (zs : List Kd) : ∀ u ∈ zs.flatMap kdCells, u.oneCell' = true := fun u hu => by
 obtain ⟨z, _, h⟩ := List.mem_flatMap.1 hu
 simp only [kdCells, List.mem_cons, List.not_mem_nil, or_false] at h
 rcases h with rfl|rfl|rfl|rfl <;> rfl
end Go.V
