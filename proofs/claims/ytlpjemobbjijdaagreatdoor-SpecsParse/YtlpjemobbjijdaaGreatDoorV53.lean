/- The library V, part 53: iterators with own blocks. -/
import Derived.Test.YtlpjemobbjijdaaGreatDoorV39
import Derived.Test.YtlpjemobbjijdaaGreatDoorV33
import Derived.OpenShut
import Derived.Scope
import Derived.Lib.LastIndexByte
import Derived.Lib.SlTrimSet
import Derived.Lib.Strings
import Derived.Lib.IndexLaws
import Derived.Lib.LaidTab
set_option linter.unusedVariables false
set_option linter.unusedSimpArgs false
set_option autoImplicit false
namespace Go.V
open Go Go.RowKit
def frz (j s : Nat) (es : List (List AV)) : AV → AV
 | .own b n h c => if b = j ∧ h = es.length then .sl s (es.take n) c else .own b n h c
 | .ptr b i o h => if b = j ∧ h = es.length ∧ i < es.length then .iptr (es.getD i []) o else .ptr b i o h
 | v => v
def frzB (j s : Nat) (es : List (List AV)) : Blk → Blk
 | .row z t fs => .row z t (fs.map fun e => e.map (frz j s es))
 | b => b
def frzH (j s : Nat) (es : List (List AV)) (H : List Blk) : List Blk := (H.set j (qe0 s es.length)).map (frzB j s es)
theorem wcq9 {j s : Nat} {es : List (List AV)} (H : List Blk) (x : Nat) : shOf (H.map (frzB j s es)) x = shOf H x := by
 simp only [shOf, List.getElem?_map]
 cases H[x]? with
 | none => rfl
 | some B => cases B <;> simp [frzB]
theorem xbp9 {j s : Nat} {es : List (List AV)} (ν : Nat → Option Nat) (H : List Blk) (x : Nat) : mpOf ν (H.map (frzB j s es)) x = mpOf ν H x := by
 simp only [mpOf, List.getElem?_map]
 cases H[x]? with
 | none => rfl
 | some B => cases B <;> simp [frzB]
theorem zdi9 {j s : Nat} {es : List (List AV)} (S : St) (H : List Blk) (x : Nat) : S.at (H.map (frzB j s es)) x = S.at H x := by
 simp only [St.at, List.getElem?_map]
 cases H[x]? with
 | none => rfl
 | some B => cases B <;> simp [frzB]
open Classical in
theorem zbh9 {n0 n j sz : Nat} {t : TypeId} {s : Nat → AV} {H : List Blk} {es : List (List AV)} (hb : H[j]? = some (.row sz t es)) :
  Weak n0 (Lst n s) H (Lst n fun x => frz j sz es (s x)) (frzH j sz es H) := fun S vs hok hn ha => by
 obtain ⟨hokD, hleD, hatD, hatD', hextD⟩ := waK9 hb hok
 have hlt := (List.getElem?_eq_some_iff.1 hb).1
 have hself : (H.set j (qe0 sz es.length))[j]? = some (qe0 sz es.length) := List.getElem?_set_self hlt
 let own (k : Nat) : Prop := ∃ c, S.μ j = some (k, c)
 let S' : St := ⟨fun k => if own k then S.w.heap[k]? else S.M k, upd S.μ j none, S.ν, S.w⟩
 have hMn : ∀ k, own k → S.M k = none := fun k ⟨c, hc⟩ => by
  obtain ⟨g0, k0, cs, q1, q2, _⟩ := (hok.row j sz t es hb).resolve_left (fun q => by rw [q.1] at hc; cases hc)
  rw [hc] at q1; injection q1 with q1; injection q1 with e1 e2; subst e1; exact q2
 have hM : ∀ k o, S.M k = some o → S'.M k = some o := fun k o hk => by
  have hno : ¬ own k := fun q => by rw [hMn k q] at hk; cases hk
  show (if own k then _ else _) = _
  rw [if_neg hno]; exact hk
 have henv : ∀ b s1 cur, (S.env H).sh b = some (s1, cur) → ∃ cur', cur ≤ cur' ∧ (S'.env (frzH j sz es H)).sh b = some (s1, cur') ∧ (cur' = cur → S'.μ b = S.μ b) := fun b s1 cur h => by
  obtain ⟨cur', l, h1, h2⟩ := hleD.sh b s1 cur h
  exact ⟨cur', l, by
   show shOf _ b = _
   rw [frzH, wcq9]; exact h1, h2⟩
 have hle : (S.env H).le (S'.env (frzH j sz es H)) := ⟨hM, henv, fun b g h => by
  show mpOf S.ν _ b = _
  rw [frzH, xbp9]
  exact hleD.ν b g h⟩
 have hfrz : ∀ (a : AV) (v : Value), Rel (S.env H) a v → Rel (S'.env (frzH j sz es H)) (frz j sz es a) v := fun a v hr => by
  have other : frz j sz es a = a → Rel (S'.env (frzH j sz es H)) (frz j sz es a) v := fun h => by rw [h]; exact Rel.mono hle a v hr
  cases a with
  | own b m h c =>
   by_cases hbj : b = j ∧ h = es.length
   ·simp only [frz, if_pos hbj]
    obtain ⟨rfl, rfl⟩ := hbj
    simp only [Rel] at hr ⊢
    obtain ⟨s1, cur, h1, h2, h3⟩ := hr
    have h1 : shOf H b = some (s1, cur) := h1
    rw [shOf, hb] at h1
    injection h1 with h1; injection h1 with e1 e2; subst e1; subst e2
    obtain ⟨hm, h4⟩ := h3 rfl
    have hlen : (es.take m).length = m := by simp; omega
    rcases h4 with ⟨_, ⟨a0, rfl⟩, rfl, hc⟩|⟨g, k, cap, hg, rfl, hncap, hcapk, hcn, hcs⟩
    ·refine ⟨a0, 0, by simp, by simp, by simp [maxLen], fun k hk => ?_, .inl (by simp)⟩
     rcases hc with rfl|rfl
     ·cases hk
     ·injection hk
    ·have hg : S.μ b = some (g, k) := hg
     obtain ⟨g0, k0, cs, q1, q2, q3, q4, q5, q6, q7⟩ := (hok.row b sz t es hb).resolve_left (fun q => by rw [q.1] at hg; cases hg)
     rw [hg] at q1; injection q1 with q1; injection q1 with e1 e3; subst e1; subst e3
     have hMg : S'.M g = some (.cells cs t (0, 0)) := by
      show (if own g then _ else _) = _
      rw [if_pos ⟨k, hg⟩]; exact q3
     refine ⟨some ⟨g, 0, none⟩, cap, by rw [hlen], by rw [hlen]; exact hncap, by omega, fun k hk => hcs k hk, .inr ⟨g, 0, rfl, RelE.mk fun i e hi => ?_⟩⟩
     rw [List.getElem?_take] at hi
     split at hi
     ·obtain ⟨l1, l2⟩ := q7 i e hi
      refine ⟨l1, RelC.mk fun q a hq => ?_⟩
      obtain ⟨w, hw, ho, hrw⟩ := l2 q a hq
      refine ⟨w, ?_, ho, Rel.mono hle a w hrw⟩
      show zs0 S'.M g (0 + i * sz + q) = some w
      simp only [zs0, hMg, Nat.zero_add]
      exact hw
     ·cases hi
   ·exact other (by simp only [frz, if_neg hbj])
  | ptr b i o h =>
   by_cases hbj : b = j ∧ h = es.length ∧ i < es.length
   ·simp only [frz, if_pos hbj]
    obtain ⟨rfl, rfl, hi⟩ := hbj
    simp only [Rel] at hr ⊢
    obtain ⟨s1, cur, h1, h2, h3⟩ := hr
    have h1 : shOf H b = some (s1, cur) := h1
    rw [shOf, hb] at h1
    injection h1 with h1; injection h1 with e1 e2; subst e1; subst e2
    obtain ⟨g, k, hg, rfl⟩ := h3 rfl
    have hg : S.μ b = some (g, k) := hg
    obtain ⟨g0, k0, cs, q1, q2, q3, q4, q5, q6, q7⟩ := (hok.row b sz t es hb).resolve_left (fun q => by rw [q.1] at hg; cases hg)
    rw [hg] at q1; injection q1 with q1; injection q1 with e1 e3; subst e1; subst e3
    have hMg : S'.M g = some (.cells cs t (0, 0)) := by
     show (if own g then _ else _) = _
     rw [if_pos ⟨k, hg⟩]; exact q3
    have hei : es[i]? = some (es.getD i []) := by
     rw [List.getD_eq_getElem?_getD, List.getElem?_eq_getElem hi]; rfl
    obtain ⟨l1, l2⟩ := q7 i _ hei
    refine ⟨g, i * sz, rfl, RelC.mk fun q a hq => ?_⟩
    obtain ⟨w, hw, ho, hrw⟩ := l2 q a hq
    refine ⟨w, ?_, ho, Rel.mono hle a w hrw⟩
    show zs0 S'.M g (i * sz + q) = some w
    simp only [zs0, hMg]
    exact hw
   ·exact other (by simp only [frz, if_neg hbj])
  | _ => exact other rfl
 have hat : ∀ x g, S'.at (frzH j sz es H) x = some g → x ≠ j ∧ S.at H x = some g := fun x g hx => by
  rw [frzH, zdi9] at hx
  exact hatD x g hx
 have hget : ∀ (x : Nat) (B : Blk), x ≠ j → (frzH j sz es H)[x]? = some B → ∃ B0, H[x]? = some B0 ∧ B = frzB j sz es B0 := fun x B e h => by
  rw [frzH, List.getElem?_map, List.getElem?_set_ne (Ne.symm e)] at h
  cases h0 : H[x]? with
  | none => rw [h0] at h; cases h
  | some B0 => rw [h0] at h; injection h with h; exact ⟨B0, rfl, h.symm⟩
 have hgetj : (frzH j sz es H)[j]? = some (frzB j sz es (qe0 sz es.length)) := by
  rw [frzH, List.getElem?_map, hself]; rfl
 refine ⟨S', rfl, ⟨fun k o hk => ?_, fun x s1 t1 es1 hx => ?_, fun x o hx => ?_, fun x y g hx hy => ?_⟩, ⟨rfl, rfl, rfl, Nat.le_refl _, fun _ _ _ => rfl, hM, fun k hk => ?_, fun k hk => ?_, fun x s1 cur _ hs => henv x s1 cur hs, fun x g _ hg => ?_, fun h => by simpa [frzH] using h⟩, ?_⟩
 ·have hk : (if own k then S.w.heap[k]? else S.M k) = some o := hk
  split at hk
  ·exact hk
  ·exact hok.imm k o hk
 ·by_cases e : x = j
  ·subst e
   rw [hgetj] at hx
   injection hx with hx; injection hx with h1 h2 h3
   exact .inl ⟨xc0 _ _ _, .inr h2.symm⟩
  ·obtain ⟨B0, h0, hB⟩ := hget x _ e hx
   cases B0 with
   | ob o => cases hB
   | row s2 t2 es2 =>
    injection hB with e1 e2 e3; subst e1; subst e2; subst e3
    rcases hok.row x s1 t1 es2 h0 with q|⟨g, k, cs, h1, h2, h3, h4, h5, h6, h7⟩
    ·refine .inl ⟨(xd0 _ _ e).trans q.1, q.2.imp (fun q2 => by rw [q2]; rfl) id⟩
    ·have hno : ¬ own g := fun ⟨c, hc⟩ => e (hok.inj x j g (by simp [St.at, h0, h1]) (by simp [St.at, hb, hc]))
     refine .inr ⟨g, k, cs, (xd0 _ _ e).trans h1, ?_, h3, h4, by simpa using h5, h6, fun i e' hi => ?_⟩
     ·show (if own g then _ else _) = _
      rw [if_neg hno]; exact h2
     ·rw [List.getElem?_map] at hi
      cases hei : es2[i]? with
      | none => rw [hei] at hi; cases hi
      | some e0 =>
       rw [hei] at hi
       simp only [Option.map_some, Option.some.injEq] at hi
       subst hi
       obtain ⟨l1, l2⟩ := h7 i e0 hei
       refine ⟨by simpa using l1, fun q a hq => ?_⟩
       rw [List.getElem?_map] at hq
       cases hej : e0[q]? with
       | none => rw [hej] at hq; cases hq
       | some a0 =>
        rw [hej] at hq
        simp only [Option.map_some, Option.some.injEq] at hq
        subst hq
        obtain ⟨u, hu, ho, hru⟩ := l2 q a0 hej
        exact ⟨u, hu, ho, hfrz a0 u hru⟩
 ·have e : x ≠ j := by
   rintro rfl
   rw [hgetj] at hx; cases hx
  obtain ⟨B0, h0, hB⟩ := hget x _ e hx
  cases B0 with
  | row _ _ _ => cases hB
  | ob o0 =>
   injection hB with hB; subst hB
   obtain ⟨g, ob1, h1, h2, h3, h4⟩ := hok.ob x o h0
   have hno : ¬ own g := fun ⟨c, hc⟩ => e (hok.inj x j g (by simp [St.at, h0, h1]) (by simp [St.at, hb, hc]))
   refine ⟨g, ob1, h1, ?_, h3, h4.mono hle⟩
   show (if own g then _ else _) = _
   rw [if_neg hno]; exact h2
 ·exact hok.inj x y g (hat x g hx).2 (hat y g hy).2
 ·have hk : (if own k then S.w.heap[k]? else S.M k) ≠ none := hk
  by_cases q : own k
  ·obtain ⟨c, hc⟩ := q
   exact .inr (.inl ⟨j, by simp [St.at, hb, hc]⟩)
  ·rw [if_neg q] at hk; exact .inl hk
 ·obtain ⟨x, hx⟩ := hk
  exact .inl ⟨x, (hat x k hx).2⟩
 ·rw [frzH, xbp9]
  exact (show mpOf S.ν _ x = _ from hleD.ν x g hg)
 ·refine RelL.mk (by simpa [Lst] using ha.length) fun i a v hi hv => ?_
  have : (Lst n fun x => frz j sz es (s x)) = (Lst n s).map (frz j sz es) := by simp [Lst]
  rw [this, List.getElem?_map] at hi
  cases hy : (Lst n s)[i]? with
  | none => rw [hy] at hi; cases hi
  | some y =>
   rw [hy] at hi
   simp only [Option.map_some, Option.some.injEq] at hi
   subst hi
   obtain ⟨v', hv', hr⟩ := ha.get hy
   rw [hv] at hv'; injection hv' with hv'; subst hv'
   exact hfrz y v hr
end Go.V
set_option linter.unusedVariables false
set_option linter.unusedSimpArgs false
set_option autoImplicit false
namespace Go.V
open Go Go.RowKit
def kd0 (z : Nat) (t : TypeId) (rss : List (List (List AV))) : List Blk := rss.map fun es => .row z t es
theorem ww0 (z : Nat) (t : TypeId) (rss : List (List (List AV))) : (kd0 z t rss).length = rss.length := by simp [kd0]
theorem xdi9 (z : Nat) (t : TypeId) : kd0 z t [] = [] := rfl
section
variable {z N q : Nat} {t : TypeId} {rss : List (List (List AV))}
theorem zar9 (hN : rss.length = N) (hq : q < N) : (kd0 z t rss)[q]? = some (.row z t (rss.getD q [])) := by
 have : q < rss.length := by omega
 simp [kd0, this]
theorem qbT9 (es : List (List AV)) : (kd0 z t rss).set q (.row z t es) = kd0 z t (rss.set q es) := by
 simp [kd0, List.map_set]
theorem qdr9 (K : List Blk) (hN : rss.length = N) (j : Nat) : (kd0 z t rss ++ K)[N + j]? = K[j]? := by
 rw [List.getElem?_append_right (by rw [ww0]; omega), ww0, hN, Nat.add_sub_cancel_left]
theorem qcE9 (A : Blk) (K : List Blk) (hN : rss.length = N) : (kd0 z t rss ++ A :: K)[N]? = some A := qdr9 (A :: K) hN 0
theorem vcq9 (K : List Blk) (B : Blk) (hN : rss.length = N) (j : Nat) : (kd0 z t rss ++ K).set (N + j) B = kd0 z t rss ++ K.set j B := by
 rw [List.set_append_right _ _ (by rw [ww0]; omega), ww0, hN, Nat.add_sub_cancel_left]
theorem zbT9 (A B : Blk) (K : List Blk) (hN : rss.length = N) : (kd0 z t rss ++ A :: K).set N B = kd0 z t rss ++ B :: K := vcq9 (A :: K) B hN 0
theorem xbT9 (es : List (List AV)) : kd0 z t rss ++ [.row z t es] = kd0 z t (rss ++ [es]) := by simp [kd0]
theorem kcq9 {m : Nat} (h : ∀ es ∈ rss, idsE (fun b => decide (b < m)) es = true) : (kd0 z t rss).all (Blk.below m) = true := by
 rw [kd0, List.all_map, List.all_eq_true]
 exact fun es hes => h es hes
end
def ownR (b0 I : Nat) (c : Option Nat) (N : Nat) : List (List AV) := (List.range N).map fun s => [.own (s + b0) I I c]
theorem vm0 (b0 I : Nat) (c : Option Nat) (N : Nat) : (ownR b0 I c N).length = N := by simp [ownR]
theorem qcr9 (b0 I : Nat) (c : Option Nat) : ownR b0 I c 0 = [] := rfl
theorem xar9 {b0 I N k : Nat} (c : Option Nat) (h : k < N) : (ownR b0 I c N).getD k [] = [.own (k + b0) I I c] := by simp [ownR, h]
theorem kaV9 (b0 I : Nat) (c : Option Nat) (N : Nat) : ownR b0 I c N ++ [[.own (N + b0) I I c]] = ownR b0 I c (N + 1) := by simp [ownR, List.range_succ]
theorem qaC9 {H : List Blk} {b0 I N z : Nat} {t : TypeId} {c : Option Nat} {rss : List (List (List AV))} (hH : ∀ s, s < N → H[s + b0]? = some (.row z t (rss.getD s []))) (hl : ∀ s, s < N → (rss.getD s []).length = I) :
  ((ownR b0 I c N).map fun e => e.map (xf0 H 1)) = (List.range N).map fun s => [.sl z (rss.getD s []) c] := by
 rw [ownR, List.map_map]
 refine List.map_congr_left fun s hs => ?_
 have hs := List.mem_range.1 hs
 have : ∀ es : List (List AV), es.map (fun e => e.map (xf0 H 0)) = es := fun es => by
  have h0 : xf0 H 0 = id := by funext v; simp [xf0]
  simp [h0]
 simp only [Function.comp, List.map_cons, List.map_nil, xf0, hH s hs]
 rw [List.take_of_length_le (by rw [hl s hs]; exact Nat.le_refl _)]
 have h1 := this (rss.getD s [])
 simp only [xf0] at h1
 rw [h1]
theorem wbT9 {H : List Blk} {b0 I N z : Nat} {t : TypeId} {c : Option Nat} {rss : List (List (List AV))} (hH : ∀ s, s < N → H[s + b0]? = some (.row z t (rss.getD s []))) (hl : ∀ s, s < N → (rss.getD s []).length = I) (hc : ∀ s, s < N → idsE kR0 (rss.getD s []) = true) :
  ((ownR b0 I c N).all fun e => e.all (okC H 1)) = true := by
 rw [ownR, List.all_map, List.all_eq_true]
 intro s hs
 have hs := List.mem_range.1 hs
 have h1 := hH s hs
 have h2 := hl s hs
 simp only [Function.comp, List.all_cons, List.all_nil, Bool.and_true, okC, wf0, shOf, h1, h2, beq_self_eq_true, Bool.true_and]
 rw [List.all_eq_true]
 intro e he
 have hm : e ∈ rss.getD s [] := List.mem_of_mem_take he
 rw [List.all_eq_true]
 intro x hx
 exact (qS0 e).1 ((vr0 _).1 (hc s hs) e hm) x hx
end Go.V
namespace Go.V
abbrev a0_ := @qT0
abbrev a1_ := @qcn9
abbrev a2_ := @wcO9
abbrev a3_ := @kcO9
abbrev a4_ := @xcn9
abbrev ak_ := @kbN9
abbrev a5_ := @xdg9
abbrev a6_ := @wdg9
abbrev a7_ := @zdg9
abbrev a8_ := @zcn9
abbrev a9_ := @zbO9
abbrev g0_ := @wdq9
abbrev g1_ := @kdf9
abbrev g2_ := @go_region
abbrev g4_ := @xcO9
abbrev g5_ := @xcm9
abbrev g6_ := @go_skip
abbrev g7_ := @go_ret
abbrev g8_ := @qcO9
abbrev o0_ := @wdf9
abbrev o1_ := @wcm9
abbrev o2_ := @qaS9
abbrev o3_ := @xaI9
abbrev o4_ := @vaI9
abbrev o5_ := @wbN9
abbrev o6_ := @zax9
abbrev o7_ := @zap9
abbrev o8_ := @waI9
abbrev o9_ := @qax9
abbrev oa_ := @qcP9
abbrev ob_ := @xby9
abbrev oc_ := @vcn9
abbrev od_ := @xbf9
abbrev oe_ := @wcP9
abbrev of_ := @xcq9
abbrev og_ := @xbB9
end Go.V
set_option linter.unusedVariables false
set_option linter.unusedSimpArgs false
set_option autoImplicit false
namespace Go.V
open Go Go.RowKit
theorem vbT9 {j z k : Nat} {es : List (List AV)} {a : AV} (hk : k ≤ j) (ha : a.ids (fun b => decide (b < k)) = true) : frz j z es a = a := by
 cases a with
 | own b n h c =>
  simp only [AV.ids, decide_eq_true_eq] at ha
  have : b ≠ j := by omega
  simp [frz, this]
 | ptr b i o h =>
  simp only [AV.ids, decide_eq_true_eq] at ha
  have : b ≠ j := by omega
  simp [frz, this]
 | _ => rfl
mutual
theorem wbp9 {p q : Nat → Bool} (h : ∀ b, p b = true → q b = true) : ∀ a : AV, a.ids p = true → a.ids q = true
 | .own b _ _ _, ha => by simp only [AV.ids] at ha ⊢; exact h b ha
 | .ptr b _ _ _, ha => by simp only [AV.ids] at ha ⊢; exact h b ha
 | .sub b _ _ _, ha => by simp only [AV.ids] at ha ⊢; exact h b ha
 | .mp b, ha => by simp only [AV.ids] at ha ⊢; exact h b ha
 | .yld b, ha => by simp only [AV.ids] at ha ⊢; exact h b ha
 | .agg cs, ha => by simp only [AV.ids] at ha ⊢; exact vw0 h cs ha
 | .tup cs, ha => by simp only [AV.ids] at ha ⊢; exact vw0 h cs ha
 | .sl _ es _, ha => by simp only [AV.ids] at ha ⊢; exact qaW9 h es ha
 | .iptr cs _, ha => by simp only [AV.ids] at ha ⊢; exact vw0 h cs ha
 | .fn _ cs, ha => by simp only [AV.ids] at ha ⊢; exact vw0 h cs ha
 | .bnd _ cs, ha => by simp only [AV.ids] at ha ⊢; exact vw0 h cs ha
 | .opt _ v, ha => by simp only [AV.ids] at ha ⊢; exact wbp9 h v ha
 | .int _ _, _ => rfl
 | .bool _, _ => rfl
 | .str _, _ => rfl
 | .top, _ => rfl
 | .anyb, _ => rfl
 | .lit _, _ => rfl
 | .anyi _, _ => rfl
 | .err, _ => rfl
theorem vw0 {p q : Nat → Bool} (h : ∀ b, p b = true → q b = true) : ∀ as : List AV, idsL p as = true → idsL q as = true
 | [], _ => rfl
 | a :: as, ha => by
  simp only [idsL, Bool.and_eq_true] at ha ⊢
  exact ⟨wbp9 h a ha.1, vw0 h as ha.2⟩
theorem qaW9 {p q : Nat → Bool} (h : ∀ b, p b = true → q b = true) : ∀ es : List (List AV), idsE p es = true → idsE q es = true
 | [], _ => rfl
 | e :: es, ha => by
  simp only [idsE, Bool.and_eq_true] at ha ⊢
  exact ⟨vw0 h e ha.1, qaW9 h es ha.2⟩
end
theorem wbB9 {j z k : Nat} {es : List (List AV)} (hk : k ≤ j) {B : List Blk} (hr : ∀ b ∈ B, ∃ z t es, b = .row z t es) (h : B.all (Blk.below k) = true) : B.map (frzB j z es) = B := by
 rw [List.all_eq_true] at h
 have : ∀ b ∈ B, frzB j z es b = b := fun b hb => by
  obtain ⟨z', t, fs, rfl⟩ := hr b hb
  have h1 := h _ hb
  simp only [Blk.below, vr0, qS0] at h1
  rw [frzB]
  congr 1
  have : ∀ e ∈ fs, e.map (frz j z es) = e := fun e he => by
   have : ∀ a ∈ e, frz j z es a = a := fun a ha => vbT9 hk (h1 e he a ha)
   exact (List.map_congr_left this).trans (List.map_id' e)
  exact (List.map_congr_left this).trans (List.map_id' fs)
 exact (List.map_congr_left this).trans (List.map_id' B)
section
variable {n N z z2 I : Nat} {t t2 : TypeId} {c : Option Nat} {B : List Blk}
end
end Go.V
set_option linter.unusedVariables false
set_option linter.unusedSimpArgs false
set_option autoImplicit false
namespace Go.V
open Go Go.RowKit Go.ChangeShapes Go.WideShapes Go.ChangeAt
def View.array2 {P : Program} {t e : TypeId} {α : Type} (c : Nat) (hu : P.underlying t = some (.array 2 e)) (hc : P.cellsOf e = c) (ht : P.cellsOf t = c + c) (v : View P e α) : View P t (α × α) where
 to y := v.to y.1 ++ v.to y.2
 ok y := v.ok y.1 ∧ v.ok y.2
 get {H enc w fuel cs x} h := by
  obtain ⟨xs, m, rfl, _, h1, h2, h3⟩ := DataW.trod_array hu h
  have a0 := h3 0 (by omega)
  have a1 := h3 1 (by omega)
  rw [hc, List.getElem?_eq_getElem (by omega)] at a0 a1
  rw [Nat.zero_mul, List.drop_zero] at a0
  rw [Nat.one_mul, List.take_of_length_le (by rw [List.length_drop]; omega)] at a1
  obtain ⟨y1, q1, q2, q3⟩ := v.get a0
  obtain ⟨y2, p1, p2, p3⟩ := v.get a1
  have e : cs = cs.take c ++ cs.drop c := (List.take_append_drop c cs).symm
  refine ⟨(y1, y2), ⟨q1, p1⟩, ?_, ?_⟩
  ·rw [e]; exact q2.append p2
  ·rw [e]; intro u hu
   rcases List.mem_append.1 hu with q|q
   ·exact q3 u q
   ·exact p3 u q
end Go.V
set_option linter.unusedVariables false
set_option linter.unusedSimpArgs false
set_option autoImplicit false
namespace Go.V
open Go Go.RowKit
def updF {α : Type} (f : Nat → α) (q : Nat) (v : α) : Nat → α := fun s => if s = q then v else f s
def wdi9 (f : Nat → AV) (N : Nat) : List (List AV) := (List.range N).map fun s => [f s]
def wdO9 (z : Nat) (t : TypeId) (g : Nat → List (List AV)) (N : Nat) : List Blk := (List.range N).map fun s => .row z t (g s)
section
variable {z N q : Nat} {t : TypeId} {g : Nat → List (List AV)}
end
end Go.V
set_option linter.unusedVariables false
set_option linter.unusedSimpArgs false
set_option autoImplicit false
namespace Go.V
open Go Go.RowKit
section
variable {P : Program} {G : Glob} {q : Operand → Bool}
variable {ops : List Oper} {md : Region.Mode} {rs : List (Nat × Nat)} {K : List AV → List Blk → Prop}
def zcE9 (P : Program) (G : Glob) (q : Operand → Bool) (ops : List Oper) (rs : List (Nat × Nat)) (o : Oper) (a : List AV) (H : List Blk) (r : AV) (H' : List Blk) : Prop :=
 waQ9 P G q ops o a H r H' ∧ (xah9 rs o = true → ∀ H2, wi0 P G ops o a H2 r H2)
def zdr9 (P : Program) (G : Glob) (q : Operand → Bool) (ops : List Oper) (rs : List (Nat × Nat)) (md : Region.Mode) (K : List AV → List Blk → Prop) : Nat → Array Bool → List AV → List Blk → Prop
 | 0, listed, a, H => Region.ready md ops.toArray listed = [] ∧ K a H
 | fuel + 1, listed, a, H => (Region.ready md ops.toArray listed = [] → K a H) ∧
   ∀ i ∈ Region.ready md ops.toArray listed, ∃ o, ops[i]? = some o ∧ ∃ r H', zcE9 P G q ops rs o a H r H' ∧ zdr9 P G q ops rs md K fuel (listed.setIfInBounds i true) (putA a o.dst r) H'
def lexI (q : Operand → Bool) (rs : List (Nat × Nat)) (md : Region.Mode) (ops : Array Oper) (T : Nat) : Nat → Nat → Array Bool → Bool
 | 0, _, listed => (Region.ready md ops listed).isEmpty
 | n + 1, k, listed => decide (k < 256) && (Region.ready md ops listed).contains k &&
   ((List.range ops.size).all fun j => j == k || listed.getD j true || T.testBit (j * 256 + k) ||
    (match ops[k]?, ops[j]? with|some ok, some oj => (zbd9 q ok.op oj.op || (xah9 rs ok || xah9 rs oj)) && ok.apart ops oj|_, _ => false)) &&
   lexI q rs md ops T n (k + 1) (listed.setIfInBounds k true)
def zcr9 (q : Operand → Bool) (rs : List (Nat × Nat)) (ops : List Oper) : Bool :=
 match ancT .any ops 0 0 with
 | 0 => lexI q rs .any ops.toArray 0 ops.length 0 (Array.replicate ops.length false)
 | n + 1 => lexI q rs .any ops.toArray (n + 1) ops.length 0 (Array.replicate ops.length false)
def vdi9 (P : Program) (G : Glob) (q : Operand → Bool) (ops : List Oper) (rs : List (Nat × Nat)) (K : List AV → List Blk → Prop) : List Oper → List AV → List Blk → Prop
 | [], a, H => K a H
 | o :: rest, a, H => ∃ r H', zcE9 P G q ops rs o a H r H' ∧ vdi9 P G q ops rs K rest (putA a o.dst r) H'
def immC (rs : List (Nat × Nat)) (a : List AV) : Prop := ∀ x ∈ rs, topB (getA a x.2).strip = none
end
section
variable {P : Program} {G : Glob} {ρ : Bool} {n0 : Nat} {Q : Post} {a : List AV} {H : List Blk}
end
def immB : List (Nat × Nat) → (Nat → AV) → Bool
 | [], _ => true
 | (_, x) :: rs, s => (topB (s x).strip).isNone && immB rs s
def immQ (rs : List (Nat × Nat)) (Q : ke0) : ke0 := fun e s H => Q e s H ∧ immB rs s = true
section
variable {ρ : Bool} {P : Program} {G : Glob} {n0 n : Nat} {body : Code} {p : List Nat} {Q : ke0} {B : Prop} {s : Nat → AV} {H : List Blk} {dr : Operand → Bool}
def xdr9 (dr : Operand → Bool) (rs : List (Nat × Nat)) (ops : List Oper) : Bool := zcr9 dr rs ops && waB9 rs [] ops
theorem qcR9 {rs : List (Nat × Nat)} (h : Out Q .normal (B ∧ immB rs s = true) s H) : Out (immQ rs Q) .normal B s H := ⟨h.1.1, h.2, h.1.2⟩
end
attribute [push_cast] immB
end Go.V
namespace Go.V
abbrev oh_ := @qcR9
end Go.V
set_option linter.unusedVariables false
set_option linter.unusedSimpArgs false
set_option autoImplicit false
namespace Go.V
open Go Go.RowKit
theorem xcE9 {H : List Blk} {b n h z : Nat} {t : TypeId} {es : List (List AV)} {c : Option Nat} (hb : H[b]? = some (.row z t es)) (hn : n = es.length) (hh : h = es.length) (hi : idsE kR0 es = true) : okA H 1 (.own b n h c) = true := by
 subst hn; subst hh
 simp only [okA, okC, wf0, shOf, hb, List.take_length]
 simp
 exact fun x hx y hy => (qS0 x).1 ((vr0 es).1 hi x hx) y hy
theorem zaW9 {H : List Blk} {b n h z : Nat} {t : TypeId} {es : List (List AV)} {c : Option Nat} (hb : H[b]? = some (.row z t es)) (hn : n = es.length) (hh : h = es.length) : qu0 H 1 (.own b n h c) = .sl z es c := by
 subst hn; subst hh
 simp [qu0, xf0, hb]
end Go.V
set_option linter.unusedVariables false
set_option linter.unusedSimpArgs false
set_option autoImplicit false
namespace Go.V
open Go Go.RowKit
section
variable {P : Program} {b : Frame} {a : Act} {k : List Item} {cs : List Frame} {w : World}
theorem xq0 {c : Code} : step P (lone (b.atR a (.code (.scope c) :: k)) cs w) = .next (lone (b.atR a (.code c :: .inScope c :: k)) cs w) :=
 step_lone_go (by simp [stepG, stepG.exec, Frame.atR])
theorem vaK9 {c : Code} : step P (lone (b.atR a (.inScope c :: k)) cs w) = .next (lone (b.atR a k) cs w) :=
 step_lone_go (by simp [stepG, stepG.exec, Frame.atR])
end
theorem vbB9 {F : Fence} {n : Nat} {P : Program} {Q : Exit → Act → World → Prop} {a : Act} {w : World} {c : Code} (h : c.wpIn F n P (Exit.noGoto Q) a w) : (Code.scope c).wpIn F n P Q a w := by
 intro b k cs hro hb hr
 have h0 : (lone (b.atR a (.code (.scope c) :: k)) cs w).fenced P F := fenced_calm hb hr rfl
 obtain ⟨e, a₁, w₁, hq, harr⟩ := h b (.inScope c :: k) cs hro hb hr
 cases e with
 | normal => exact ⟨.normal, a₁, w₁, hq, .head h0 xq0 (StepsIn.trans harr (.one (fenced_calm hb hr rfl) vaK9))⟩
 | exit id =>
  have hx : exitTo id (.inScope c :: k) = exitTo id k := by simp [exitTo]
  exact ⟨_, a₁, w₁, hq, fun k' hk => .head h0 xq0 (harr.1 k' (by rw [hx]; exact hk)),
   fun hr' hk => let ⟨k₁, h1, h2⟩ := harr.2 hr' (by rw [hx]; exact hk); ⟨k₁, h1, .head h0 xq0 h2⟩⟩
 | goto l => exact hq.elim
 | ret => exact ⟨_, a₁, w₁, hq, .of_steps (.one h0 xq0) harr⟩
 | panic ch => exact ⟨_, a₁, w₁, hq, .of_steps (.one h0 xq0) harr⟩
 | outgrown => exact ⟨_, a₁, w₁, hq, .of_steps (.one h0 xq0) harr⟩
def xbh9 (Q : Post) : Post
 | .goto _, _, _ => False
 | e, a, H => Q e a H
def vab9 (Q : ke0) : ke0
 | .goto _, _, _ => False
 | e, s, H => Q e s H
section
variable {ρ : Bool} {P : Program} {G : Glob} {n0 n : Nat} {H : List Blk}
theorem kbT9 {Q : Post} {a : List AV} {c : Code} (h : AWp ρ P G n0 c (xbh9 Q) a H) : AWp ρ P G n0 (.scope c) Q a H := fun ro S act hr h1 h2 h3 h4 =>
 vbB9 (wpIn_mono (h ro S act hr h1 h2 h3 h4) fun e act' w' he => by
  cases e with
  | goto l =>
   obtain ⟨a', H', S', _, q, _⟩ := he
   exact q.elim
  | _ => exact he)
variable {body : Code} {p : List Nat} {Q : ke0} {B : Prop} {s : Nat → AV}
theorem xaW9 (n : Nat) (Q : ke0) : qE0 n (vab9 Q) = xbh9 (qE0 n Q) := by
 funext e a H
 cases e with
 | goto l => simp [qE0, vab9, xbh9]
 | _ => rfl
def zcR9 : Code → Bool
 | .scope _ => true
 | _ => false
def xcR9 : Code → Bool
 | .label _ => true
 | _ => false
theorem vbp9 (hs : zcR9 (atR body p) = true) (h : Go ρ P G n0 n body (0 :: p) (vab9 Q) B s H) : Go ρ P G n0 n body p Q B s H := by
 refine ⟨h.1, ?_⟩
 have h2 := h.2
 unfold At at h2 ⊢
 simp only [atR] at h2
 rw [xaW9] at h2
 generalize atR body p = c at *
 cases c with
 | scope c => exact kbT9 h2
 | _ => cases hs
theorem kbp9 (hs : xcR9 (atR body p) = true) (h : Out Q .normal B s H) : Go ρ P G n0 n body p Q B s H := by
 refine ⟨h.1, ?_⟩
 unfold At
 generalize atR body p = c at *
 cases c with
 | label l => exact vaQ9 ⟨_, rfl, h.2⟩
 | _ => cases hs
theorem waW9 (h : Out Q .normal B s H) : Out (vab9 Q) .normal B s H := ⟨h.1, h.2⟩
theorem wU0 (h : Out Q .ret B s H) : Out (vab9 Q) .ret B s H := ⟨h.1, h.2⟩
theorem zM0 {id : Nat} (h : Out Q (.exit id) B s H) : Out (vab9 Q) (.exit id) B s H := ⟨h.1, h.2⟩
end
abbrev ga_ := @vbp9
abbrev gb_ := @kbp9
abbrev oi_ := @waW9
abbrev oj_ := @wU0
abbrev ok_ := @zM0
end Go.V
set_option linter.unusedVariables false
set_option linter.unusedSimpArgs false
set_option autoImplicit false
namespace Go.V
open Go Go.RowKit
end Go.V
set_option linter.unusedVariables false
set_option linter.unusedSimpArgs false
namespace Go.V
open Go Go.RowKit
section
variable {P : Program} {G : Glob}
theorem qbU9 {f : FuncId} {H : List Blk} (hc : ∀ (s p : ByteArray) (w : World), Calls P f #[.string s, .string p] w fun e w' => e = .returned (.bool (Lib.hasPrefix s.data.toList p.data.toList)) ∧ w' = w)
  (s p : List UInt8) : ka0 P G f [.str s, .str p] H (.bool (Lib.hasPrefix s p)) H :=
 kf0 fun S vals hok hG ha => by
  simp only [RelL, Rel] at ha
  obtain ⟨u, us, rfl, rfl, u2, us2, rfl, rfl, rfl⟩ := ha
  refine (hc ⟨s.toArray⟩ ⟨p.toArray⟩ S.w).mono fun e w' ⟨he, hw⟩ => ⟨_, he, hw ▸ Below.refl _ _, fun E _ _ => ?_⟩
  simp [Rel]
theorem xcr9 {f : FuncId} {H : List Blk} (hc : ∀ (s : ByteArray) (c : Int) (w : World), Calls P f #[.string s, .int .u8 c] w fun e w' => e = .returned (.int .i64 (Lib.indexByte s.data.toList c.toNat.toUInt8)) ∧ w' = w)
  (s : List UInt8) (c : UInt8) (n : Int) (hn : n = (c.toNat : Int)) : ka0 P G f [.str s, .int .u8 n] H (.int .i64 (Lib.indexByte s c)) H :=
 kf0 fun S vals hok hG ha => by
  subst hn
  simp only [RelL, Rel] at ha
  obtain ⟨u, us, rfl, rfl, u2, us2, rfl, rfl, rfl⟩ := ha
  refine (hc ⟨s.toArray⟩ (c.toNat : Int) S.w).mono fun e w' ⟨he, hw⟩ => ⟨_, he, hw ▸ Below.refl _ _, fun E _ _ => ?_⟩
  have : (((c.toNat : Nat) : Int).toNat).toUInt8 = c := by rw [Int.toNat_natCast]; exact UInt8.ofNat_toNat
  simp [Rel, this]
theorem vaW9 {f : FuncId} {H : List Blk} (hc : ∀ (s : ByteArray) (c : Int), s.size < 4611686018427387904 → ∀ (w : World), Calls P f #[.string s, .int .u8 c] w fun e w' => e = .returned (.int .i64 (Lib.lastIndexByte s c)) ∧ w' = w)
  (s : List UInt8) (n : Int) (hs : s.length < 4611686018427387904) : ka0 P G f [.str s, .int .u8 n] H (.int .i64 (Lib.lastIndexByte ⟨s.toArray⟩ n)) H :=
 kf0 fun S vals hok hG ha => by
  simp only [RelL, Rel] at ha
  obtain ⟨u, us, rfl, rfl, u2, us2, rfl, rfl, rfl⟩ := ha
  refine (hc ⟨s.toArray⟩ n (by have : (ByteArray.mk s.toArray).size = s.length := rfl; omega) S.w).mono fun e w' ⟨he, hw⟩ => ⟨_, he, hw ▸ Below.refl _ _, fun E _ _ => ?_⟩
  simp [Rel]
theorem wcr9 {f : FuncId} {H : List Blk} (hc : ∀ (s : ByteArray) (c : UInt8) (w : World), Calls P f #[.string s, .string ⟨#[c]⟩] w fun e w' => e = .returned (.int .i64 (Lib.countByte s.data.toList c)) ∧ w' = w)
  (s : List UInt8) (c : UInt8) : ka0 P G f [.str s, .str [c]] H (.int .i64 ((s.count c : Nat) : Int)) H :=
 kf0 fun S vals hok hG ha => by
  simp only [RelL, Rel] at ha
  obtain ⟨u, us, rfl, rfl, u2, us2, rfl, rfl, rfl⟩ := ha
  refine (hc ⟨s.toArray⟩ c S.w).mono fun e w' ⟨he, hw⟩ => ⟨_, he, hw ▸ Below.refl _ _, fun E _ _ => ?_⟩
  simp [Rel, Lib.countByte]
theorem wbh9 {f : FuncId} {H : List Blk} (hc : ∀ (s cutset : ByteArray) (w : World), cutset.size < 4294967281 → (∀ (j : Nat) b, cutset.data.toList[j]? = some b → b.toNat < 128) →
   Calls P f #[.string s, .string cutset] w fun e w' => e = .returned (.string ⟨(Lib.trimLeftS s.data.toList cutset.data.toList).toArray⟩) ∧ Below w.heap.size w w')
  (s cs : List UInt8) (h1 : cs.length < 4294967281) (h2 : cs.all (fun b => decide (b.toNat < 128)) = true) : ka0 P G f [.str s, .str cs] H (.str (Lib.trimLeftS s cs)) H :=
 kf0 fun S vals hok hG ha => by
  simp only [RelL, Rel] at ha
  obtain ⟨u, us, rfl, rfl, u2, us2, rfl, rfl, rfl⟩ := ha
  refine (hc ⟨s.toArray⟩ ⟨cs.toArray⟩ S.w h1 (fun j b hb => of_decide_eq_true (List.all_eq_true.1 h2 b (List.mem_of_getElem? hb)))).mono fun e w' ⟨he, hb⟩ => ⟨_, he, hb, fun E _ _ => ?_⟩
  simp [Rel]
theorem wax9 (s : List UInt8) (c : UInt8) : (Lib.lastIndexByte ⟨s.toArray⟩ (c.toNat : Int) = -1 ∧ ∀ j : Nat, s[j]? ≠ some c) ∨
  (∃ i : Nat, i < s.length ∧ Lib.lastIndexByte ⟨s.toArray⟩ (c.toNat : Int) = i ∧ s[i]? = some c ∧ ∀ j : Nat, i < j → s[j]? ≠ some c) := by
 have key : ∀ j, j < s.length → ((((ByteArray.mk s.toArray).data[j]!).toNat : Int) = (c.toNat : Int) ↔ s[j]? = some c) := fun j hj => by
  have e : (ByteArray.mk s.toArray).data[j]! = s[j] := by
   show s.toArray[j]! = s[j]
   simp [hj]
  rw [e, List.getElem?_eq_getElem hj, Option.some.injEq, Int.natCast_inj, UInt8.toNat_inj]
 have none_of : ∀ j, s.length ≤ j → s[j]? ≠ some c := fun j hj => by rw [List.getElem?_eq_none hj]; simp
 have hsz : (ByteArray.mk s.toArray).size = s.length := rfl
 rcases Lib.lastIndexByte_spec ⟨s.toArray⟩ (c.toNat : Int) with ⟨h1, h2⟩|⟨i, h1, h2, h3, h4⟩
 ·refine .inl ⟨h1, fun j => ?_⟩
  rcases Nat.lt_or_ge j s.length with hj|hj
  ·exact fun q => h2 j hj ((key j hj).2 q)
  ·exact none_of j hj
 ·rw [hsz] at h1
  refine .inr ⟨i, h1, h2, (key i h1).1 h3, fun j hj => ?_⟩
  rcases Nat.lt_or_ge j s.length with hj2|hj2
  ·exact fun q => h4 j hj (by rw [hsz]; exact hj2) ((key j hj2).2 q)
  ·exact none_of j hj2
end
end Go.V
set_option linter.unusedVariables false
set_option linter.unusedSimpArgs false
namespace Go.V
open Go Go.RowKit Go.Lib
def vbh9 {H : Type} (zs : List (List UInt8)) : DataW H := .agg (zs.map fun z => .lit (.string z))
theorem kaK9 {H : Type} {enc : TypeId × Value → H} {P : Program} {w : World} {base : Nat} {sp : Nat → Bool} {held : Bool} {fuel : Nat} {t e : TypeId} {n : Nat} {cs : List Value} {zs : List (List UInt8)} {p : List MemPlace}
  (ht : P.underlying t = some (.array n e)) (he : P.underlying e = some .string) (hce : P.cellsOf e = 1) (hct : P.cellsOf t = n)
  (h : DataW.trod enc P w base sp held fuel t cs = some (vbh9 zs, p)) : cs = zs.map fun z => Value.string ⟨z.toArray⟩ := by
 cases fuel with
 | zero => simp [DataW.trod] at h
 | succ fuel =>
  simp only [DataW.trod, ht, hce, hct, Nat.mul_one] at h
  split at h
  ·rename_i hl
   obtain ⟨xs, hm, hx⟩ := Option.map_eq_some_iff.1 h
   have hxs : xs.map (·.1) = zs.map fun z => (DataW.lit (.string z) : DataW H) := by
    have := congrArg Prod.fst hx
    simpa [vbh9] using this
   have hxl : xs.length = n := by simpa using mapM_length hm
   have hzl : zs.length = n := by
    have := congrArg List.length hxs
    simp at this
    omega
   apply List.ext_getElem?
   intro i
   by_cases hi : i < n
   ·obtain ⟨b, hb, hf⟩ := mapM_at hm i i (by simp [hi])
    obtain ⟨z, hc, rfl, _⟩ := DataW.trod_string he hf
    have h1 : cs[i]? = some (.string z) := by
     have := congrArg (·[0]?) hc
     simpa [List.getElem?_take, List.getElem?_drop] using this
    have h2 : (xs.map (·.1))[i]? = some (DataW.lit (.string z.data.toList) : DataW H) := by simp [hb]
    rw [hxs] at h2
    simp only [List.getElem?_map, Option.map_eq_some_iff, DataW.lit.injEq, Lit.string.injEq] at h2
    obtain ⟨z', hz', rfl⟩ := h2
    simp [h1, hz']
   ·rw [List.getElem?_eq_none (by omega), List.getElem?_eq_none (by simp; omega)]
  ·cases h
theorem kaW9 {P : Program} {W : World} {name : String} {zs : List (List UInt8)} {rest : List (String × DataW Unit)} {g : Nat} {t e : TypeId} {n : Nat}
  (hg : P.globalNamed name = some g) (hty : (P.globals[g]?).map (·.type) = some t) (ht : P.underlying t = some (.array n e)) (he : P.underlying e = some .string) (hce : P.cellsOf e = 1) (hct : P.cellsOf t = n)
  (h : laidMet P ((name, vbh9 zs) :: rest) W) : W.var? P name = some (zs.map fun z => Value.string ⟨z.toArray⟩).toArray := by
 obtain ⟨ps, ⟨g', t', cs, fuel, p, q, hg', ht', hvar, hd, _, _⟩, _⟩ := h
 obtain rfl := Option.some.inj (hg.symm.trans hg')
 obtain rfl := Option.some.inj (hty.symm.trans ht')
 rw [hvar, ← kaK9 ht he hce hct hd]
theorem qaX9 (E : Env) : ∀ zs : List (List UInt8), RelL E (zs.map fun z => AV.str z) (zs.map fun z => Value.string ⟨z.toArray⟩)
 | [] => rfl
 | z :: zs => ⟨_, _, rfl, rfl, qaX9 E zs⟩
end Go.V
set_option linter.unusedVariables false
set_option linter.unusedSimpArgs false
namespace Go.V
open Go Go.RowKit
def zaX9 (bs : List UInt8) : List (List AV) := bs.map fun b => [.int .u8 ((b.toNat : Nat) : Int)]
theorem vU0 : ∀ bs : List UInt8, wae9 (zaX9 bs) = some bs
 | [] => rfl
 | b :: r => by
  show (wae9 (zaX9 r)).map (UInt8.ofNat ((b.toNat : Nat) : Int).toNat :: ·) = _
  rw [vU0 r, Int.toNat_natCast, UInt8.ofNat_toNat]; rfl
theorem qaL9 (bs : List UInt8) : (zaX9 bs).length = bs.length := by simp [zaX9]
theorem war9 (p : Nat → Bool) (bs : List UInt8) : idsE p (zaX9 bs) = true := xy0 _ _ fun x => by simp [idsL, AV.ids]
attribute [simp] war9
attribute [push_cast] vU0 qaL9 war9
end Go.V
set_option linter.unusedVariables false
set_option linter.unusedSimpArgs false
namespace Go.V
open Go Go.RowKit
def St.glue (S S' : St) (n : Nat) : St := { S' with μ := fun b => if b < n then S'.μ b else S.μ b, ν := fun b => if b < n then S'.ν b else S.ν b }
section
variable {P : Program} {G : Glob}
end
end Go.V
set_option linter.unusedVariables false
set_option linter.unusedSimpArgs false
namespace Go.V
open Go Go.RowKit
theorem qbq9 {P : Program} {G : Glob} {f : FuncId} {args : List AV} {H H' K : List Blk} {r : AV} (h : ka0 P G f args H r (H' ++ K)) (hl : H'.length = H.length) (hb : H'.all (Blk.below H.length) = true) (hr : r.ids (fun b => decide (b < H.length)) = true) : ka0 P G f args H r H' := fun S vals hok hG ha => by
 refine (h S vals hok hG ha).mono fun e w' ⟨v, S', he, hw, hok', hext, hrel⟩ => ?_
 have ht : (H' ++ K).take H.length = H' := List.take_left' hl
 obtain ⟨h1, h2⟩ := vB0 (n0 := H.length) (m := H.length) hok' (Nat.le_refl _) (by simp [hl]) (by rw [ht]; exact hb)
 have hag := vS0 (m := H.length) S' (H' ++ K)
 rw [ht] at h1 h2 hag
 exact ⟨v, S', he, hw, h1, hext.trans h2, Rel.move hag r v hr hrel⟩
end Go.V
