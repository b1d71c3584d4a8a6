/- The library V, part 51: rows of bytes, turned into texts. -/
import Derived.Test.YtcoakjnmnommpaaGreatDoorV37
import Derived.Test.YtcoakjnmnommpaaGreatDoorV33
import Derived.OpenShut
import Derived.Scope
import Derived.Lib.LastIndexByte
import Derived.Lib.SlTrimSet
import Derived.Lib.Strings
import Derived.Lib.IndexLaws
import Derived.Lib.LaidTab
set_option linter.unusedVariables false
set_option linter.unusedSimpArgs false
set_option autoImplicit false
namespace Go.V
open Go Go.RowKit
def renA (K : List Blk) (d j m : Nat) : AV → AV
 | .own b n h c => if b = j then .own m n h c else xq0 K d (.own b n h c)
 | v => xq0 K d v
def xeh9 (K : List Blk) (d j : Nat) : AV → Bool
 | .own b n h c => b == j || okA K d (.own b n h c)
 | v => okA K d v
def renR (K : List Blk) (d j m : Nat) : AV → AV
 | .tup vs => .tup (vs.map (renA K d j m))
 | v => renA K d j m v
def zeE9 (K : List Blk) (d j : Nat) : AV → Bool
 | .tup vs => vs.all (xeh9 K d j)
 | v => xeh9 K d j v
theorem vY0 {n0 n m : Nat} {s : Nat → AV} {H : List Blk} (hm : n0 ≤ m) (hml : m ≤ H.length) (hb : (H.take m).all (Blk.below m) = true) : Weak n0 (Lst n s) H (Lst n fun t => ki0 m (s t)) (H.take m) := by
 rw [← qaG9]; exact xbq9 hm hml hb
section
variable {ρ : Bool} {P : Program} {G : Glob} {n0 n : Nat} {body : Code} {p : List Nat} {Q : xl0} {B : Prop} {s : Nat → AV} {H : List Blk}
def qbu9 (ρ : Bool) (P : Program) (G : Glob) (n0 n : Nat) (body : Code) (p : List Nat) (Q : xl0) : Nat → (Nat → AV) → List Blk → Prop
 | 0, _, _ => False
 | m + 1, s, H => At ρ P G n0 n body (0 :: p) (xR0 (qbu9 ρ P G n0 n body p Q m) Q) s H
theorem vdM9 {Q' : xl0} (h : At ρ P G n0 n body p Q s H) (hq : ∀ e s H, Q e s H → Q' e s H) : At ρ P G n0 n body p Q' s H :=
 vs0 h fun e a H ⟨s, ha, q⟩ => ⟨s, ha, hq e s H q⟩
theorem kx0 (m : Nat) (hs : xdy9 (atR body p) = true) (h : Go ρ P G n0 n body (0 :: p) (xR0 (qbu9 ρ P G n0 n body p Q m) Q) B s H) : Go ρ P G n0 n body p Q B s H := by
 refine go_loop hs (fun k s H => qbu9 ρ P G n0 n body p Q k s H) (m := m + 1) h.1 (Weak.refl _ _) h.2 fun k s H hI => ?_;cases k with
 | zero => exact hI.elim
 | succ k =>
  refine ⟨trivial, vdM9 hI fun e s' H' q => ?_⟩;cases e with
  | normal => exact ⟨k, s', H', z'K k, Weak.refl _ _, q⟩
  | _ => exact q
theorem qci9 {m : Nat} (h : Go ρ P G n0 n body (0 :: p) (xR0 (qbu9 ρ P G n0 n body p Q m) Q) B s H) : Out (xR0 (qbu9 ρ P G n0 n body p Q (m + 1)) Q) .normal B s H := ⟨h.1, h.2⟩
end
def frz (j s : Nat) (es : List (List AV)) : AV → AV
 | .own b n h c => if b = j ∧ h = es.length then .sl s (es.take n) c else .own b n h c
 | .ptr b i o h => if b = j ∧ h = es.length ∧ i < es.length then .iptr (es.getD i []) o else .ptr b i o h
 | v => v
def frzB (j s : Nat) (es : List (List AV)) : Blk → Blk
 | .row z t fs => .row z t (fs.map fun e => e.map (frz j s es))
 | b => b
def frzH (j s : Nat) (es : List (List AV)) (H : List Blk) : List Blk := (H.set j (qg0 s es.length)).map (frzB j s es)
theorem qdj9 {j s : Nat} {es : List (List AV)} (H : List Blk) (x : Nat) : shOf (H.map (frzB j s es)) x = shOf H x := by
 simp only [shOf, l'p];cases H[x]? with
 | none => rfl
 | some B => cases B <;> simp [frzB]
theorem vbR9 {j s : Nat} {es : List (List AV)} (ν : Nat → Option Nat) (H : List Blk) (x : Nat) : mpOf ν (H.map (frzB j s es)) x = mpOf ν H x := by
 simp only [mpOf, l'p];cases H[x]? with
 | none => rfl
 | some B => cases B <;> simp [frzB]
theorem weh9 {j s : Nat} {es : List (List AV)} (S : St) (H : List Blk) (x : Nat) : S.at (H.map (frzB j s es)) x = S.at H x := by
 simp only [St.at, l'p];cases H[x]? with
 | none => rfl
 | some B => cases B <;> simp [frzB]
open Classical in
theorem vN0 {n0 n j sz : Nat} {t : TypeId} {s : Nat → AV} {H : List Blk} {es : List (List AV)} (hb : H[j]? = some (.row sz t es)) :
  Weak n0 (Lst n s) H (Lst n fun x => frz j sz es (s x)) (frzH j sz es H) := fun S vs hok hn ha => by
 obtain ⟨hokD, hleD, hatD, hatD', hextD⟩ := wbR9 hb hok;have hlt := (l'c.1 hb).1;have hself : (H.set j (qg0 sz es.length))[j]? = some (qg0 sz es.length) := l't hlt
 let own (k : Nat) : Prop := ∃ c, S.μ j = some (k, c)
 let S' : St := ⟨fun k => if own k then S.w.heap[k]? else S.M k, upd S.μ j none, S.ν, S.w⟩
 have hMn : ∀ k, own k → S.M k = none := fun k ⟨c, hc⟩ => by
  obtain ⟨g0, k0, cs, q1, q2, _⟩ := (hok.row j sz t es hb).resolve_left (fun q => by rw [q.1] at hc; cases hc);rw [hc] at q1; injection q1 with q1; injection q1 with e1 e2; subst e1; exact q2
 have hM : ∀ k o, S.M k = some o → S'.M k = some o := fun k o hk => by
  have hno : ¬ own k := fun q => by rw [hMn k q] at hk; cases hk
  show (if own k then _ else _) = _;rw [if_neg hno]; exact hk
 have henv : ∀ b s1 cur, (S.env H).sh b = some (s1, cur) → ∃ cur', cur ≤ cur' ∧ (S'.env (frzH j sz es H)).sh b = some (s1, cur') ∧ (cur' = cur → S'.μ b = S.μ b) := fun b s1 cur h => by
  obtain ⟨cur', l, h1, h2⟩ := hleD.sh b s1 cur h;exact ⟨cur', l, by
   show shOf _ b = _;rw [frzH, qdj9]; exact h1, h2⟩
 have hle : (S.env H).le (S'.env (frzH j sz es H)) := ⟨hM, henv, fun b g h => by
  show mpOf S.ν _ b = _;rw [frzH, vbR9];exact hleD.ν b g h⟩
 have hfrz : ∀ (a : AV) (v : Value), Rel (S.env H) a v → Rel (S'.env (frzH j sz es H)) (frz j sz es a) v := fun a v hr => by
  have other : frz j sz es a = a → Rel (S'.env (frzH j sz es H)) (frz j sz es a) v := fun h => by rw [h]; exact Rel.mono hle a v hr
  cases a with
  | own b m h c =>
   by_cases hbj : b = j ∧ h = es.length
   ·simp only [frz, if_pos hbj];obtain ⟨rfl, rfl⟩ := hbj;simp only [Rel] at hr ⊢;obtain ⟨s1, cur, h1, h2, h3⟩ := hr;have h1 : shOf H b = some (s1, cur) := h1;rw [shOf, hb] at h1;injection h1 with h1; injection h1 with e1 e2; subst e1; subst e2
    obtain ⟨hm, h4⟩ := h3 rfl;have hlen : (es.take m).length = m := by simp; omega
    rcases h4 with ⟨_, ⟨a0, rfl⟩, rfl, hc⟩|⟨g, k, cap, hg, rfl, hncap, hcapk, hcn, hcs⟩
    ·refine ⟨a0, 0, by simp, by simp, by simp [maxLen], fun k hk => ?_, .inl (by simp)⟩;rcases hc with rfl|rfl
     ·cases hk
     ·injection hk
    ·have hg : S.μ b = some (g, k) := hg;obtain ⟨g0, k0, cs, q1, q2, q3, q4, q5, q6, q7⟩ := (hok.row b sz t es hb).resolve_left (fun q => by rw [q.1] at hg; cases hg);rw [hg] at q1; injection q1 with q1; injection q1 with e1 e3; subst e1; subst e3
     have hMg : S'.M g = some (.cells cs t (0, 0)) := by
      show (if own g then _ else _) = _;rw [if_pos ⟨k, hg⟩]; exact q3
     refine ⟨some ⟨g, 0, none⟩, cap, by rw [hlen], by rw [hlen]; exact hncap, by omega, fun k hk => hcs k hk, .inr ⟨g, 0, rfl, RelE.mk fun i e hi => ?_⟩⟩;rw [l'E] at hi;split at hi
     ·obtain ⟨l1, l2⟩ := q7 i e hi;refine ⟨l1, RelC.mk fun q a hq => ?_⟩;obtain ⟨w, hw, ho, hrw⟩ := l2 q a hq;refine ⟨w, ?_, ho, Rel.mono hle a w hrw⟩;show zs0 S'.M g (0 + i * sz + q) = some w;simp only [zs0, hMg, l'm];exact hw
     ·cases hi
   ·exact other (by simp only [frz, if_neg hbj])
  | ptr b i o h =>
   by_cases hbj : b = j ∧ h = es.length ∧ i < es.length
   ·simp only [frz, if_pos hbj];obtain ⟨rfl, rfl, hi⟩ := hbj;simp only [Rel] at hr ⊢;obtain ⟨s1, cur, h1, h2, h3⟩ := hr;have h1 : shOf H b = some (s1, cur) := h1;rw [shOf, hb] at h1;injection h1 with h1; injection h1 with e1 e2; subst e1; subst e2
    obtain ⟨g, k, hg, rfl⟩ := h3 rfl;have hg : S.μ b = some (g, k) := hg;obtain ⟨g0, k0, cs, q1, q2, q3, q4, q5, q6, q7⟩ := (hok.row b sz t es hb).resolve_left (fun q => by rw [q.1] at hg; cases hg);rw [hg] at q1; injection q1 with q1; injection q1 with e1 e3; subst e1; subst e3
    have hMg : S'.M g = some (.cells cs t (0, 0)) := by
     show (if own g then _ else _) = _;rw [if_pos ⟨k, hg⟩]; exact q3
    have hei : es[i]? = some (es.getD i []) := by
     rw [l'b, l'e hi]; rfl
    obtain ⟨l1, l2⟩ := q7 i _ hei;refine ⟨g, i * sz, rfl, RelC.mk fun q a hq => ?_⟩;obtain ⟨w, hw, ho, hrw⟩ := l2 q a hq;refine ⟨w, ?_, ho, Rel.mono hle a w hrw⟩;show zs0 S'.M g (i * sz + q) = some w;simp only [zs0, hMg];exact hw
   ·exact other (by simp only [frz, if_neg hbj])
  | _ => exact other rfl
 have hat : ∀ x g, S'.at (frzH j sz es H) x = some g → x ≠ j ∧ S.at H x = some g := fun x g hx => by
  rw [frzH, weh9] at hx;exact hatD x g hx
 have hget : ∀ (x : Nat) (B : Blk), x ≠ j → (frzH j sz es H)[x]? = some B → ∃ B0, H[x]? = some B0 ∧ B = frzB j sz es B0 := fun x B e h => by
  rw [frzH, l'p, l's (n'r e)] at h;cases h0 : H[x]? with
  | none => rw [h0] at h; cases h
  | some B0 => rw [h0] at h; injection h with h; exact ⟨B0, rfl, h.symm⟩
 have hgetj : (frzH j sz es H)[j]? = some (frzB j sz es (qg0 sz es.length)) := by
  rw [frzH, l'p, hself]; rfl
 refine ⟨S', rfl, ⟨fun k o hk => ?_, fun x s1 t1 es1 hx => ?_, fun x o hx => ?_, fun x y g hx hy => ?_⟩, ⟨rfl, rfl, rfl, l'f _, fun _ _ _ => rfl, hM, fun k hk => ?_, fun k hk => ?_, fun x s1 cur _ hs => henv x s1 cur hs, fun x g _ hg => ?_, fun h => by simpa [frzH] using h⟩, ?_⟩
 ·have hk : (if own k then S.w.heap[k]? else S.M k) = some o := hk;split at hk
  ·exact hk
  ·exact hok.imm k o hk
 ·by_cases e : x = j
  ·subst e;rw [hgetj] at hx;injection hx with hx; injection hx with h1 h2 h3
   exact .inl ⟨wf0 _ _ _, .inr h2.symm⟩
  ·obtain ⟨B0, h0, hB⟩ := hget x _ e hx;cases B0 with
   | ob o => cases hB
   | row s2 t2 es2 =>
    injection hB with e1 e2 e3; subst e1; subst e2; subst e3
    rcases hok.row x s1 t1 es2 h0 with q|⟨g, k, cs, h1, h2, h3, h4, h5, h6, h7⟩
    ·refine .inl ⟨(kh0 _ _ e).trans q.1, q.2.imp (fun q2 => by rw [q2]; rfl) id⟩
    ·have hno : ¬ own g := fun ⟨c, hc⟩ => e (hok.inj x j g (by simp [St.at, h0, h1]) (by simp [St.at, hb, hc]));refine .inr ⟨g, k, cs, (kh0 _ _ e).trans h1, ?_, h3, h4, by simpa using h5, h6, fun i e' hi => ?_⟩
     ·show (if own g then _ else _) = _;rw [if_neg hno]; exact h2
     ·rw [l'p] at hi;cases hei : es2[i]? with
      | none => rw [hei] at hi; cases hi
      | some e0 =>
       rw [hei] at hi;simp only [Option.map_some, Option.some.injEq] at hi;subst hi;obtain ⟨l1, l2⟩ := h7 i e0 hei;refine ⟨by simpa using l1, fun q a hq => ?_⟩;rw [l'p] at hq;cases hej : e0[q]? with
       | none => rw [hej] at hq; cases hq
       | some a0 =>
        rw [hej] at hq;simp only [Option.map_some, Option.some.injEq] at hq;subst hq;obtain ⟨u, hu, ho, hru⟩ := l2 q a0 hej;exact ⟨u, hu, ho, hfrz a0 u hru⟩
 ·have e : x ≠ j := by
   rintro rfl;rw [hgetj] at hx; cases hx
  obtain ⟨B0, h0, hB⟩ := hget x _ e hx;cases B0 with
  | row _ _ _ => cases hB
  | ob o0 =>
   injection hB with hB; subst hB
   obtain ⟨g, ob1, h1, h2, h3, h4⟩ := hok.ob x o h0;have hno : ¬ own g := fun ⟨c, hc⟩ => e (hok.inj x j g (by simp [St.at, h0, h1]) (by simp [St.at, hb, hc]));refine ⟨g, ob1, h1, ?_, h3, h4.mono hle⟩;show (if own g then _ else _) = _;rw [if_neg hno]; exact h2
 ·exact hok.inj x y g (hat x g hx).2 (hat y g hy).2
 ·have hk : (if own k then S.w.heap[k]? else S.M k) ≠ none := hk;by_cases q : own k
  ·obtain ⟨c, hc⟩ := q;exact .inr (.inl ⟨j, by simp [St.at, hb, hc]⟩)
  ·rw [if_neg q] at hk; exact .inl hk
 ·obtain ⟨x, hx⟩ := hk;exact .inl ⟨x, (hat x k hx).2⟩
 ·rw [frzH, vbR9];exact (show mpOf S.ν _ x = _ from hleD.ν x g hg)
 ·refine RelL.mk (by simpa [Lst] using ha.length) fun i a v hi hv => ?_;have : (Lst n fun x => frz j sz es (s x)) = (Lst n s).map (frz j sz es) := by simp [Lst]
  rw [this, l'p] at hi;cases hy : (Lst n s)[i]? with
  | none => rw [hy] at hi; cases hi
  | some y =>
   rw [hy] at hi;simp only [Option.map_some, Option.some.injEq] at hi;subst hi;obtain ⟨v', hv', hr⟩ := ha.get hy;rw [hv] at hv'; injection hv' with hv'; subst hv'
   exact hfrz y v hr
theorem xn0 {j s : Nat} {es fs : List (List AV)} (h : idsE (fun b => !(b == j)) fs = true) : (fs.map fun e => e.map (frz j s es)) = fs := by
 have h1 : ∀ a : AV, a.ids (fun b => !(b == j)) = true → frz j s es a = a := fun a ha => by
  cases a with
  | own b n h c =>
   simp only [AV.ids, l'M, beq_eq_false_iff_ne, ne_eq] at ha;simp [frz, ha]
  | ptr b i o h =>
   simp only [AV.ids, l'M, beq_eq_false_iff_ne, ne_eq] at ha;simp [frz, ha]
  | _ => rfl
 have h2 : ∀ e : List AV, idsL (fun b => !(b == j)) e = true → e.map (frz j s es) = e := fun e he => by
  induction e with
  | nil => rfl
  | cons a e ih =>
   rw [idsL, l'a] at he;rw [List.map_cons, h1 a he.1, ih he.2]
 induction fs with
 | nil => rfl
 | cons e fs ih =>
  rw [idsE, l'a] at h;rw [List.map_cons, h2 e h.1, ih h.2]
theorem zm0 {n0 n j sz : Nat} {t : TypeId} {es : List (List AV)} {Q : xl0} {B : Prop} {s : Nat → AV} {H : List Blk} {I : Nat → (Nat → AV) → List Blk → Prop} {m : Nat} (m' k : Nat) (hb : H[j]? = some (.row sz t es)) (hm : m' < m) (hB : B) (hn : n0 ≤ k) (hk : k ≤ H.length) (hbl : ((frzH j sz es H).take k).all (Blk.below k) = true) (hI : I m' (fun t => ki0 k (frz j sz es (s t))) ((frzH j sz es H).take k)) :
  Out (xR0 (fun s' H' => ∃ m' s2 H2, m' < m ∧ Weak n0 (Lst n s') H' (Lst n s2) H2 ∧ I m' s2 H2) Q) .normal B s H := by
 refine ⟨hB, m', _, _, hm, ?_, hI⟩;have h1 : Weak n0 (Lst n s) H (Lst n fun x => frz j sz es (s x)) (frzH j sz es H) := vN0 hb;have h2 : Weak n0 (Lst n fun x => frz j sz es (s x)) (frzH j sz es H) (Lst n fun t => ki0 k (frz j sz es (s t))) ((frzH j sz es H).take k) := vY0 hn (by simpa [frzH] using hk) hbl;exact h1.trans h2
def qeF9 (z : Nat) (t : TypeId) (rss : List (List (List AV))) : List Blk := rss.map fun es => .row z t es
section
variable {z N q : Nat} {t : TypeId} {rss : List (List (List AV))}
end
def ownR (b0 I : Nat) (c : Option Nat) (N : Nat) : List (List AV) := (List.range N).map fun s => [.own (s + b0) I I c]
theorem zD0 (b0 I : Nat) (c : Option Nat) (N : Nat) : (ownR b0 I c N).length = N := by simp [ownR]
theorem zaH9 {b0 I N k : Nat} (c : Option Nat) (h : k < N) : (ownR b0 I c N).getD k [] = [.own (k + b0) I I c] := by simp [ownR, h]
theorem zdj9 {b0 I N m : Nat} (c : Option Nat) (h : N + b0 ≤ m) : idsE (fun b => decide (b < m)) (ownR b0 I c N) = true := by
 rw [zG0];intro e he;obtain ⟨s, hs, rfl⟩ := l'B.1 he;have := l'o.1 hs;simp [idsL, AV.ids]; omega
theorem zbu9 {b0 I N n : Nat} (c : Option Nat) (h : n ≤ N) : (ownR b0 I c N).take n = ownR b0 I c n := by
 rw [ownR, ← List.map_take, List.take_range, n'E h]; rfl
end Go.V
namespace Go.V
abbrev a0_ := @wC0
abbrev a1_ := @wdf9
abbrev a2_ := @vdK9
abbrev a3_ := @qdL9
abbrev a4_ := @kdf9
abbrev ak_ := @xcy9
abbrev a5_ := @wef9
abbrev a6_ := @vef9
abbrev a7_ := @xef9
abbrev a8_ := @vdf9
abbrev a9_ := @vcy9
abbrev g0_ := @ver9
abbrev g1_ := @qef9
abbrev g2_ := @go_region
abbrev g4_ := @wdK9
abbrev g5_ := @kde9
abbrev g6_ := @go_skip
abbrev g7_ := @go_ret
abbrev g8_ := @zdK9
abbrev o0_ := @kee9
abbrev o1_ := @qdf9
abbrev o2_ := @vbq9
abbrev o3_ := @vbf9
abbrev o4_ := @qbg9
abbrev o5_ := @qcy9
abbrev o6_ := @kaP9
abbrev o7_ := @zaF9
abbrev o8_ := @kbf9
abbrev o9_ := @vaP9
abbrev oa_ := @zdL9
abbrev ob_ := @zcf9
abbrev oc_ := @zdg9
abbrev od_ := @vbF9
abbrev oe_ := @wdL9
abbrev of_ := @kdi9
abbrev og_ := @qci9
end Go.V
namespace Go.V
open Go Go.RowKit
theorem qcD9 {j z k : Nat} {es : List (List AV)} {a : AV} (hk : k ≤ j) (ha : a.ids (fun b => decide (b < k)) = true) : frz j z es a = a := by
 cases a with
 | own b n h c =>
  simp only [AV.ids, decide_eq_true_eq] at ha;have : b ≠ j := by omega
  simp [frz, this]
 | ptr b i o h =>
  simp only [AV.ids, decide_eq_true_eq] at ha;have : b ≠ j := by omega
  simp [frz, this]
 | _ => rfl
mutual
theorem kbR9 {p q : Nat → Bool} (h : ∀ b, p b = true → q b = true) : ∀ a : AV, a.ids p = true → a.ids q = true
 | .own b _ _ _, ha => by simp only [AV.ids] at ha ⊢; exact h b ha
 | .ptr b _ _ _, ha => by simp only [AV.ids] at ha ⊢; exact h b ha
 | .sub b _ _ _, ha => by simp only [AV.ids] at ha ⊢; exact h b ha
 | .mp b, ha => by simp only [AV.ids] at ha ⊢; exact h b ha
 | .yld b, ha => by simp only [AV.ids] at ha ⊢; exact h b ha
 | .agg cs, ha => by simp only [AV.ids] at ha ⊢; exact xD0 h cs ha
 | .tup cs, ha => by simp only [AV.ids] at ha ⊢; exact xD0 h cs ha
 | .sl _ es _, ha => by simp only [AV.ids] at ha ⊢; exact xbu9 h es ha
 | .iptr cs _, ha => by simp only [AV.ids] at ha ⊢; exact xD0 h cs ha
 | .fn _ cs, ha => by simp only [AV.ids] at ha ⊢; exact xD0 h cs ha
 | .bnd _ cs, ha => by simp only [AV.ids] at ha ⊢; exact xD0 h cs ha
 | .opt _ v, ha => by simp only [AV.ids] at ha ⊢; exact kbR9 h v ha
 | .int _ _, _ => rfl
 | .bool _, _ => rfl
 | .str _, _ => rfl
 | .top, _ => rfl
 | .anyb, _ => rfl
 | .lit _, _ => rfl
 | .anyi _, _ => rfl
 | .err, _ => rfl
theorem xD0 {p q : Nat → Bool} (h : ∀ b, p b = true → q b = true) : ∀ as : List AV, idsL p as = true → idsL q as = true
 | [], _ => rfl
 | a :: as, ha => by
  simp only [idsL, l'a] at ha ⊢;exact ⟨kbR9 h a ha.1, xD0 h as ha.2⟩
theorem xbu9 {p q : Nat → Bool} (h : ∀ b, p b = true → q b = true) : ∀ es : List (List AV), idsE p es = true → idsE q es = true
 | [], _ => rfl
 | e :: es, ha => by
  simp only [idsE, l'a] at ha ⊢;exact ⟨xD0 h e ha.1, xbu9 h es ha.2⟩
end
theorem zci9 {j z k : Nat} {es : List (List AV)} (hk : k ≤ j) {B : List Blk} (hr : ∀ b ∈ B, ∃ z t es, b = .row z t es) (h : B.all (Blk.below k) = true) : B.map (frzB j z es) = B := by
 rw [l'j] at h;have : ∀ b ∈ B, frzB j z es b = b := fun b hb => by
  obtain ⟨z', t, fs, rfl⟩ := hr b hb;have h1 := h _ hb;simp only [Blk.below, zG0, wX0] at h1;rw [frzB];congr 1
  have : ∀ e ∈ fs, e.map (frz j z es) = e := fun e he => by
   have : ∀ a ∈ e, frz j z es a = a := fun a ha => qcD9 hk (h1 e he a ha);exact (l'L this).trans (List.map_id' e)
  exact (l'L this).trans (List.map_id' fs)
 exact (l'L this).trans (List.map_id' B)
section
variable {n N z z2 I : Nat} {t t2 : TypeId} {c : Option Nat} {B : List Blk}
end
end Go.V
namespace Go.V
open Go Go.RowKit Go.ChangeShapes Go.WideShapes Go.ChangeAt
def View.array2 {P : Program} {t e : TypeId} {α : Type} (c : Nat) (hu : P.underlying t = some (.array 2 e)) (hc : P.cellsOf e = c) (ht : P.cellsOf t = c + c) (v : View P e α) : View P t (α × α) where
 tq y := v.tq y.1 ++ v.tq y.2
 ok y := v.ok y.1 ∧ v.ok y.2
 get {H enc w fuel cs x} h := by
  obtain ⟨xs, m, rfl, _, h1, h2, h3⟩ := DataW.trod_array hu h;have a0 := h3 0 (by omega);have a1 := h3 1 (by omega);rw [hc, l'e (by omega)] at a0 a1;rw [Nat.zero_mul, List.drop_zero] at a0;rw [Nat.one_mul, l'k (by rw [z'H]; omega)] at a1;obtain ⟨y1, q1, q2, q3⟩ := v.get a0;obtain ⟨y2, p1, p2, p3⟩ := v.get a1;have e : cs = cs.take c ++ cs.drop c := (l'Q c cs).symm;refine ⟨(y1, y2), ⟨q1, p1⟩, ?_, ?_⟩
  ·rw [e]; exact q2.append p2
  ·rw [e]; intro u hu;rcases l'D.1 hu with q|q
   ·exact q3 u q
   ·exact p3 u q
end Go.V
namespace Go.V
open Go Go.RowKit
def updF {α : Type} (f : Nat → α) (q : Nat) (v : α) : Nat → α := fun s => if s = q then v else f s
def qj0 (f : Nat → AV) (N : Nat) : List (List AV) := (List.range N).map fun s => [f s]
theorem kN0 (f : Nat → AV) (N : Nat) : (qj0 f N).length = N := by simp [qj0]
theorem qaf9 {f : Nat → AV} {N k : Nat} (h : k < N) : (qj0 f N).getD k [] = [f k] := by simp [qj0, h]
theorem wJ0 {f : Nat → AV} {N q : Nat} (v : AV) : (qj0 f N).set q [v] = qj0 (updF f q v) N := by
 refine l'W (by simp [qj0]) fun k h1 h2 => ?_;rw [z'J];simp only [qj0, z'r, z'c, updF];by_cases h : q = k
 ·subst h; simp
 ·rw [if_neg h, if_neg (fun e => h e.symm)]
theorem xf0 {f g : Nat → AV} {N : Nat} (h : ∀ s, s < N → f s = g s) : qj0 f N = qj0 g N := l'L fun s hs => by rw [h s (l'o.1 hs)]
theorem wz0 (v : AV) (N : Nat) : List.replicate N [v] = qj0 (fun _ => v) N := by
 refine l'W (by simp [qj0]) fun k h1 h2 => ?_;simp [qj0]
theorem xci9 {f : Nat → AV} {N : Nat} {p : Nat → Bool} (h : ∀ s, s < N → (f s).ids p = true) : idsE p (qj0 f N) = true := by
 rw [zG0];intro e he;obtain ⟨s, hs, rfl⟩ := l'B.1 he;simp [idsL, h s (l'o.1 hs)]
def qe0 (z : Nat) (t : TypeId) (g : Nat → List (List AV)) (N : Nat) : List Blk := (List.range N).map fun s => .row z t (g s)
section
variable {z N q : Nat} {t : TypeId} {g : Nat → List (List AV)}
theorem rf_len (z : Nat) (t : TypeId) (g : Nat → List (List AV)) (N : Nat) : (qe0 z t g N).length = N := by simp [qe0]
theorem vbH9 (z : Nat) (t : TypeId) (g : Nat → List (List AV)) : qe0 z t g 0 = [] := rfl
theorem veh9 (h : q < N) : (qe0 z t g N)[q]? = some (.row z t (g q)) := by simp [qe0, h]
theorem zdz9 (es : List (List AV)) : (qe0 z t g N).set q (.row z t es) = qe0 z t (updF g q es) N := by
 refine l'W (by simp [qe0]) fun k h1 h2 => ?_;rw [z'J];simp only [qe0, z'r, z'c, updF];by_cases h : q = k
 ·subst h; simp
 ·rw [if_neg h, if_neg (fun e => h e.symm)]
theorem kbH9 (z : Nat) (t : TypeId) (g : Nat → List (List AV)) (N : Nat) : qe0 z t g N ++ [.row z t (g N)] = qe0 z t g (N + 1) := by simp [qe0, l'Z]
theorem wt0 {g' : Nat → List (List AV)} (h : ∀ s, s < N → g s = g' s) : qe0 z t g N = qe0 z t g' N := l'L fun s hs => by rw [h s (l'o.1 hs)]
theorem xaH9 (K : List Blk) (hq : q < N) : (qe0 z t g N ++ K)[q]? = some (.row z t (g q)) := by
 rw [l'd (by rw [rf_len]; omega)]; exact veh9 hq
theorem keh9 (K : List Blk) (j : Nat) : (qe0 z t g N ++ K)[N + j]? = K[j]? := by
 rw [l'r (by rw [rf_len]; omega), rf_len, n'I]
theorem wbu9 (K : List Blk) : (qe0 z t g N ++ K)[N]? = K[0]? := keh9 K 0
theorem xbh9 (es : List (List AV)) (K : List Blk) (hq : q < N) : (qe0 z t g N ++ K).set q (.row z t es) = qe0 z t (updF g q es) N ++ K := by
 rw [List.set_append_left _ _ (by rw [rf_len]; omega), zdz9]
theorem xdj9 {m : Nat} (h : ∀ s, s < N → idsE (fun b => decide (b < m)) (g s) = true) : (qe0 z t g N).all (Blk.below m) = true := by
 rw [qe0, z't, l'j];exact fun s hs => h s (l'o.1 hs)
end
theorem vbu9 {H : List Blk} {b0 N z : Nat} {t : TypeId} {f : Nat → AV} {g : Nat → List (List AV)} {c : Nat → Option Nat} (hf : ∀ s, s < N → f s = .own (s + b0) (g s).length (g s).length (c s)) (hH : ∀ s, s < N → H[s + b0]? = some (.row z t (g s))) :
  ((qj0 f N).map fun e => e.map (zh0 H 1)) = qj0 (fun s => .sl z (g s) (c s)) N := by
 rw [qj0, n'k];refine l'L fun s hs => ?_;have hs := l'o.1 hs;have : ∀ es : List (List AV), es.map (fun e => e.map (zh0 H 0)) = es := fun es => by
  have h0 : zh0 H 0 = id := by funext v; simp [zh0]
  simp [h0]
 simp only [Function.comp, List.map_cons, List.map_nil, hf s hs, zh0, hH s hs];rw [l'k (l'f _)];have h1 := this (g s);simp only [zh0] at h1;rw [h1]
theorem zcD9 {H : List Blk} {b0 N z : Nat} {t : TypeId} {f : Nat → AV} {g : Nat → List (List AV)} {c : Nat → Option Nat} (hf : ∀ s, s < N → f s = .own (s + b0) (g s).length (g s).length (c s)) (hH : ∀ s, s < N → H[s + b0]? = some (.row z t (g s))) (hc : ∀ s, s < N → idsE waw9 (g s) = true) :
  ((qj0 f N).all fun e => e.all (okC H 1)) = true := by
 rw [qj0, z't, l'j];intro s hs;have hs := l'o.1 hs;simp only [Function.comp, List.all_cons, List.all_nil, n'W, hf s hs, okC, zi0, shOf, hH s hs, beq_self_eq_true, n'o];rw [l'j];intro e he;have hm : e ∈ g s := n'y he;rw [l'j];intro x hx;exact (wX0 e).1 ((zG0 _).1 (hc s hs) e hm) x hx
section
variable {P : Program} {G : Glob} {q : Operand → Bool}
variable {ops : List Oper} {md : Region.Mode} {rs : List (Nat × Nat)} {K : List AV → List Blk → Prop}
def xdz9 (P : Program) (G : Glob) (q : Operand → Bool) (ops : List Oper) (rs : List (Nat × Nat)) (o : Oper) (a : List AV) (H : List Blk) (r : AV) (H' : List Blk) : Prop :=
 kbo9 P G q ops o a H r H' ∧ (qax9 rs o = true → ∀ H2, vn0 P G ops o a H2 r H2)
def zes9 (P : Program) (G : Glob) (q : Operand → Bool) (ops : List Oper) (rs : List (Nat × Nat)) (md : Region.Mode) (K : List AV → List Blk → Prop) : Nat → Array Bool → List AV → List Blk → Prop
 | 0, listed, a, H => Region.ready md ops.toArray listed = [] ∧ K a H
 | fuel + 1, listed, a, H => (Region.ready md ops.toArray listed = [] → K a H) ∧
   ∀ i ∈ Region.ready md ops.toArray listed, ∃ o, ops[i]? = some o ∧ ∃ r H', xdz9 P G q ops rs o a H r H' ∧ zes9 P G q ops rs md K fuel (listed.setIfInBounds i true) (putA a o.dst r) H'
def lexI (q : Operand → Bool) (rs : List (Nat × Nat)) (md : Region.Mode) (ops : Array Oper) (T : Nat) : Nat → Nat → Array Bool → Bool
 | 0, _, listed => (Region.ready md ops listed).isEmpty
 | n + 1, k, listed => decide (k < 256) && (Region.ready md ops listed).contains k &&
   ((List.range ops.size).all fun j => j == k || listed.getD j true || T.testBit (j * 256 + k) ||
    (match ops[k]?, ops[j]? with|some ok, some oj => (xbD9 q ok.op oj.op || (qax9 rs ok || qax9 rs oj)) && ok.apart ops oj|_, _ => false)) &&
   lexI q rs md ops T n (k + 1) (listed.setIfInBounds k true)
def wdj9 (q : Operand → Bool) (rs : List (Nat × Nat)) (ops : List Oper) : Bool :=
 match ancT .any ops 0 0 with
 | 0 => lexI q rs .any ops.toArray 0 ops.length 0 (Array.replicate ops.length false)
 | n + 1 => lexI q rs .any ops.toArray (n + 1) ops.length 0 (Array.replicate ops.length false)
def qei9 (P : Program) (G : Glob) (q : Operand → Bool) (ops : List Oper) (rs : List (Nat × Nat)) (K : List AV → List Blk → Prop) : List Oper → List AV → List Blk → Prop
 | [], a, H => K a H
 | o :: rest, a, H => ∃ r H', xdz9 P G q ops rs o a H r H' ∧ qei9 P G q ops rs K rest (putA a o.dst r) H'
def immC (rs : List (Nat × Nat)) (a : List AV) : Prop := ∀ x ∈ rs, topB (getA a x.2).strip = none
end
section
variable {P : Program} {G : Glob} {ρ : Bool} {n0 : Nat} {Q : Post} {a : List AV} {H : List Blk}
end
def immB : List (Nat × Nat) → (Nat → AV) → Bool
 | [], _ => true
 | (_, x) :: rs, s => (topB (s x).strip).isNone && immB rs s
def immQ (rs : List (Nat × Nat)) (Q : xl0) : xl0 := fun e s H => Q e s H ∧ immB rs s = true
section
variable {ρ : Bool} {P : Program} {G : Glob} {n0 n : Nat} {body : Code} {p : List Nat} {Q : xl0} {B : Prop} {s : Nat → AV} {H : List Blk} {dr : Operand → Bool}
def xes9 (dr : Operand → Bool) (rs : List (Nat × Nat)) (ops : List Oper) : Bool := wdj9 dr rs ops && kaU9 rs [] ops
theorem kdM9 {rs : List (Nat × Nat)} (h : Out Q .normal (B ∧ immB rs s = true) s H) : Out (immQ rs Q) .normal B s H := ⟨h.1.1, h.2, h.1.2⟩
end
attribute [push_cast] immB
end Go.V
namespace Go.V
abbrev oh_ := @kdM9
end Go.V
namespace Go.V
open Go Go.RowKit
theorem close_own {H : List Blk} {b n h z : Nat} {t : TypeId} {es : List (List AV)} {c : Option Nat} (hb : H[b]? = some (.row z t es)) (hn : n = es.length) (hh : h = es.length) (hi : idsE waw9 es = true) : vdy9 H 1 (.own b n h c) = .sl z es c := by
 subst hn; subst hh;unfold vdy9;rw [if_pos (by
  simp only [okA, okC, zi0, shOf, hb, l'x];simp;exact fun x hx y hy => (wX0 x).1 ((zG0 es).1 hi x hx) y hy)]
 simp [xq0, zh0, hb]
theorem zaV9 {H : List Blk} {b n h z : Nat} {t : TypeId} {es : List (List AV)} {c : Option Nat} (hb : H[b]? = some (.row z t es)) (hn : n = es.length) (hh : h = es.length) (hi : idsE waw9 es = true) : okA H 1 (.own b n h c) = true := by
 subst hn; subst hh;simp only [okA, okC, zi0, shOf, hb, l'x];simp;exact fun x hx y hy => (wX0 x).1 ((zG0 es).1 hi x hx) y hy
theorem vJ0 {H : List Blk} {b n h z : Nat} {t : TypeId} {es : List (List AV)} {c : Option Nat} (hb : H[b]? = some (.row z t es)) (hn : n = es.length) (hh : h = es.length) : xq0 H 1 (.own b n h c) = .sl z es c := by
 subst hn; subst hh;simp [xq0, zh0, hb]
section
variable {P : Program} {b : Frame} {a : Act} {k : List Item} {cs : List Frame} {w : World}
theorem qw0 {c : Code} : step P (lone (b.atR a (.code (.scope c) :: k)) cs w) = .next (lone (b.atR a (.code c :: .inScope c :: k)) cs w) :=
 step_lone_go (by simp [stepG, stepG.exec, Frame.atR])
theorem wbh9 {c : Code} : step P (lone (b.atR a (.inScope c :: k)) cs w) = .next (lone (b.atR a k) cs w) :=
 step_lone_go (by simp [stepG, stepG.exec, Frame.atR])
end
theorem wci9 {F : Fence} {n : Nat} {P : Program} {Q : Exit → Act → World → Prop} {a : Act} {w : World} {c : Code} (h : c.wpIn F n P (Exit.noGoto Q) a w) : (Code.scope c).wpIn F n P Q a w := by
 intro b k cs hro hb hr;have h0 : (lone (b.atR a (.code (.scope c) :: k)) cs w).fenced P F := fenced_calm hb hr rfl;obtain ⟨e, a₁, w₁, hq, harr⟩ := h b (.inScope c :: k) cs hro hb hr;cases e with
 | normal => exact ⟨.normal, a₁, w₁, hq, .head h0 qw0 (StepsIn.trans harr (.one (fenced_calm hb hr rfl) wbh9))⟩
 | exit id =>
  have hx : exitTo id (.inScope c :: k) = exitTo id k := by simp [exitTo]
  exact ⟨_, a₁, w₁, hq, fun k' hk => .head h0 qw0 (harr.1 k' (by rw [hx]; exact hk)),
   fun hr' hk => let ⟨k₁, h1, h2⟩ := harr.2 hr' (by rw [hx]; exact hk); ⟨k₁, h1, .head h0 qw0 h2⟩⟩
 | goto l => exact hq.elim
 | ret => exact ⟨_, a₁, w₁, hq, .of_steps (.one h0 qw0) harr⟩
 | panic ch => exact ⟨_, a₁, w₁, hq, .of_steps (.one h0 qw0) harr⟩
 | outgrown => exact ⟨_, a₁, w₁, hq, .of_steps (.one h0 qw0) harr⟩
def qbI9 (Q : Post) : Post
 | .goto _, _, _ => False
 | e, a, H => Q e a H
def qar9 (Q : xl0) : xl0
 | .goto _, _, _ => False
 | e, s, H => Q e s H
section
variable {ρ : Bool} {P : Program} {G : Glob} {n0 n : Nat} {H : List Blk}
theorem xcD9 {Q : Post} {a : List AV} {c : Code} (h : AWp ρ P G n0 c (qbI9 Q) a H) : AWp ρ P G n0 (.scope c) Q a H := fun ro S act hr h1 h2 h3 h4 =>
 wci9 (wpIn_mono (h ro S act hr h1 h2 h3 h4) fun e act' w' he => by
  cases e with
  | goto l =>
   obtain ⟨a', H', S', _, q, _⟩ := he;exact q.elim
  | _ => exact he)
variable {body : Code} {p : List Nat} {Q : xl0} {B : Prop} {s : Nat → AV}
theorem kbu9 (n : Nat) (Q : xl0) : zae9 n (qar9 Q) = qbI9 (zae9 n Q) := by
 funext e a H
 cases e with
 | goto l => simp [zae9, qar9, qbI9]
 | _ => rfl
def qdN9 : Code → Bool
 | .scope _ => true
 | _ => false
def zdN9 : Code → Bool
 | .label _ => true
 | _ => false
theorem vbh9 (hs : qdN9 (atR body p) = true) (h : Go ρ P G n0 n body (0 :: p) (qar9 Q) B s H) : Go ρ P G n0 n body p Q B s H := by
 refine ⟨h.1, ?_⟩;have h2 := h.2;unfold At at h2 ⊢;simp only [atR] at h2;rw [kbu9] at h2;generalize atR body p = c at *;cases c with
 | scope c => exact xcD9 h2
 | _ => cases hs
theorem kbh9 (hs : zdN9 (atR body p) = true) (h : Out Q .normal B s H) : Go ρ P G n0 n body p Q B s H := by
 refine ⟨h.1, ?_⟩;unfold At;generalize atR body p = c at *;cases c with
 | label l => exact qbp9 ⟨_, rfl, h.2⟩
 | _ => cases hs
theorem waH9 (h : Out Q .normal B s H) : Out (qar9 Q) .normal B s H := ⟨h.1, h.2⟩
theorem qO0 (h : Out Q .ret B s H) : Out (qar9 Q) .ret B s H := ⟨h.1, h.2⟩
theorem wI0 {id : Nat} (h : Out Q (.exit id) B s H) : Out (qar9 Q) (.exit id) B s H := ⟨h.1, h.2⟩
end
abbrev ga_ := @vbh9
abbrev gb_ := @kbh9
abbrev oi_ := @waH9
abbrev oj_ := @qO0
abbrev ok_ := @wI0
theorem zbI9 {P : Program} {S : St} {H : List Blk} {x : Sem Next} {r : AV} {v : Value} {w' : World} (hok : S.Ok H) (hrun : x.run P S.w = .ok (.value v) w') (hb : Below S.w.heap.size S.w w')
  (hr : ∀ E : Env, (∀ k o, S.M k = some o → E.M k = some o) → (∀ k o, S.w.heap.size ≤ k → w'.heap[k]? = some o → E.M k = some o) → Rel E r v) : zR0 P S H x r H := by
 let S' : St := ⟨fun k => if k < S.w.heap.size then S.M k else w'.heap[k]?, S.μ, S.ν, w'⟩
 have hlt : ∀ k, S.M k ≠ none → k < S.w.heap.size := fun k hk => by
  cases ho : S.M k with
  | none => exact absurd ho hk
  | some o => exact (l'l.1 (hok.imm k o ho)).1
 have hM : ∀ k o, S.M k = some o → S'.M k = some o := fun k o hk => by
  show (if k < S.w.heap.size then S.M k else w'.heap[k]?) = some o;rw [if_pos (hlt k (by rw [hk]; simp)), hk]
 have hMl : ∀ k, k < S.w.heap.size → S'.M k = S.M k := fun k hk => if_pos hk;have hle : (S.env H).le (S'.env H) := ⟨hM, fun b s cur hs => ⟨cur, l'f _, hs, fun _ => rfl⟩, fun b g hs => hs⟩;refine ⟨.value v, v, S', hrun, .inl rfl, ⟨fun k o hk => ?_, fun b s t es hbb => ?_, fun b ob0 hbb => ?_, hok.inj⟩, ⟨hb.os, hb.tape, hb.output, hb.size, fun k hk _ => hb.block k hk, hM, fun k hk => ?_, fun k hk => .inl hk, fun b s cur _ hs => ⟨cur, l'f _, hs, fun _ => rfl⟩, fun b g _ hs => hs, id⟩, hr _ hM fun k o h1 h2 => ?_⟩
 ·by_cases hk' : k < S.w.heap.size
  ·have : S.M k = some o := by rw [← hMl k hk']; exact hk
   show w'.heap[k]? = some o;rw [hb.block k hk']; exact hok.imm k o this
  ·have e : S'.M k = w'.heap[k]? := if_neg hk';rw [e] at hk; exact hk
 ·rcases hok.row b s t es hbb with q|⟨g, k, cs, h1, h2, h3, h4, h5, h6, h7⟩
  ·exact .inl q
  ·have hg : g < S.w.heap.size := (l'l.1 h3).1;exact .inr ⟨g, k, cs, h1, by rw [hMl g hg]; exact h2, (hb.block g hg).trans h3, h4, h5, h6, h7.mono hle⟩
 ·obtain ⟨g, ob1, h1, h2, h3, h4⟩ := hok.ob b ob0 hbb;have hg : g < S.w.heap.size := (l'l.1 h3).1;exact ⟨g, ob1, h1, by rw [hMl g hg]; exact h2, (hb.block g hg).trans h3, h4.mono hle⟩
 ·by_cases hk' : k < S.w.heap.size
  ·left; rw [← hMl k hk']; exact hk
  ·exact .inr (.inr (by omega))
 ·show (if k < S.w.heap.size then S.M k else w'.heap[k]?) = some o;rw [if_neg (by omega)]; exact h2
theorem xaV9 {P : Program} {G : Glob} {n : Nat} {s : Nat → AV} {H : List Blk} {t e : TypeId} {T E : TI} {k1 k2 : IntKind} {l c : Int} (hT : kb0 P t = some T) (hsh : T.shape = .slice e) (hE : kb0 P e = some E) (hz : E.zero.length = E.sz) (h0 : 0 ≤ l) (hlc : l ≤ c) (hb : (E.bytes : Int) * c ≤ 281474976710656) (hm : c ≤ maxLen) :
  Made P (.makeSlice t (.const (.int k1 l)) (.const (.int k2 c))) (evS G n s) H (.sl E.sz (List.replicate l.toNat E.zero) (some c.toNat)) := by
 intro oo ho S ρv hok hr;have e1 := hr (.const (.int k1 l)) (by simp [Op.operands]);have e2 := hr (.const (.int k2 c)) (by simp [Op.operands]);simp only [wbq9, zbq9, Rel] at e1 e2;have hu := qh0 hT hsh;obtain ⟨i, d, z, hi, hd, hzz, h1, hEE⟩ := qd0 hE;have hzr : ∀ E0 : Env, RelL E0 E.zero z.cells.toList := fun E0 => by rw [hEE]; exact vi0 _ _
 have hzs : z.cells.size = E.sz := by rw [← hz, (hzr (S.env H)).length]; simp
 have hEsz : E.sz = i.size := by rw [hEE]
 have hEb : E.bytes = i.bytes := by rw [hEE]
 have hm' : c ≤ 9223372036854775807 := by simp only [maxLen] at hm; omega
 have hrun := run_make (P := P) S.w t e i z hu hi hzz k1 k2 l c h0 hlc (by rw [← hEb]; exact hb) hm';refine zbI9 (v := .slice (some ⟨S.w.heap.size, 0, none⟩) l.toNat c.toNat) (w' := S.w.alloc (.cells (madeCells z.cells (c.toNat * i.size)) e)) hok ?_ ((Below.refl _ _).alloc (l'f _) _) fun E0 h2 h3 => ?_
 ·have : execOp ρv oo = (do pure (.value (← Instr.makeSlice t (ρv (.const (.int k1 l))) (ρv (.const (.int k2 c)))))) := by
   unfold execOp; rw [ho]
  rw [this, e1, e2];simp only [Sem.run_bind, hrun, Result.andThen_ok, Sem.run_pure]
 ·have hN := h3 S.w.heap.size _ (l'f _) (heap_alloc_new S.w (.cells (madeCells z.cells (c.toNat * i.size)) e));simp only [Rel];refine ⟨some ⟨S.w.heap.size, 0, none⟩, c.toNat, by simp, by simp; omega, by simp only [maxLen] at hm ⊢; omega, fun k hk => by injection hk, .inr ⟨S.w.heap.size, 0, rfl, RelE.mk fun q el hq => ?_⟩⟩;rw [n'V] at hq;split at hq
  ·rename_i hql;injection hq with hq; subst hq
   refine ⟨hz, RelC.mk fun j a hj => ?_⟩;have hjs : j < E.sz := by rw [← hz]; exact (l'c.1 hj).1
   have hpos : 0 < z.cells.size := by omega
   have hqj : q * E.sz + j < c.toNat * i.size := by
    rw [← hEsz];have : (q + 1) * E.sz ≤ c.toNat * E.sz := l'J _ (by omega);rw [l'O] at this;omega
   have hmod : (q * E.sz + j) % z.cells.size = j := by
    rw [hzs, n'F, z'k, l'U hjs]
   obtain ⟨v, hv, hrv⟩ := (hzr E0).get hj;refine ⟨v, ?_, h1 v (l'q hv), hrv⟩;have hjz : j < z.cells.size := by omega
   simp only [zs0, hN, l'm, madeCells, Array.getElem?_map, Array.getElem?_range, hqj, if_true, Option.map_some, hmod];rw [getElem!_pos z.cells j hjz];simpa [hjz] using hv
  ·cases hq
section
variable {P : Program} {G : Glob}
end
end Go.V
namespace Go.V
open Go Go.RowKit Go.Lib
def wes9 {H : Type} (zs : List (List UInt8)) : DataW H := .agg (zs.map fun z => .lit (.string z))
end Go.V
namespace Go.V
open Go Go.RowKit
def vt0 (bs : List UInt8) : List (List AV) := bs.map fun b => [.int .u8 ((b.toNat : Nat) : Int)]
theorem zO0 : ∀ bs : List UInt8, xau9 (vt0 bs) = some bs
 | [] => rfl
 | b :: r => by
  show (xau9 (vt0 r)).map (UInt8.ofNat ((b.toNat : Nat) : Int).toNat :: ·) = _;rw [zO0 r, Int.toNat_natCast, UInt8.ofNat_toNat]; rfl
theorem kak9 (bs : List UInt8) : (vt0 bs).length = bs.length := by simp [vt0]
theorem vaH9 (p : Nat → Bool) (bs : List UInt8) : idsE p (vt0 bs) = true := xA0 _ _ fun x => by simp [idsL, AV.ids]
theorem xbI9 (bs : List UInt8) (b : UInt8) : vt0 bs ++ [[.int .u8 ((b.toNat : Nat) : Int)]] = vt0 (bs ++ [b]) := by simp [vt0]
attribute [simp] vaH9
attribute [push_cast] zO0 kak9 vaH9
end Go.V
