import Derived.Test.YtlpjemobbjijdaaGreatDoorS46
import Derived.Test.YtlpjemobbjijdaaGreatDoorS22
import Derived.Test.YtlpjemobbjijdaaGreatDoorS47
namespace Go.Proofs
open Go Go.V
set_option linter.unusedVariables false
set_option linter.unusedSimpArgs false
def TkOk (l : List Tk) : Prop := ∀ t ∈ l, qk0 t.k t.t
theorem vae9 : ∀ (n : Nat) (s : Bs), s.length < n → ∀ (l c : Int) (ts : List Tk), lexR s l c = .ok ts → ts.length ≤ s.length ∧ TkOk ts
 | 0, s, h => absurd h (Nat.not_lt_zero _)
 | n + 1, [], _ => fun l c ts h => by
  rw [vG0] at h; injection h with h; subst h; exact ⟨l'd _, fun t ht => by cases ht⟩
 | n + 1, b :: r, hn => fun l c ts h => by
  simp only [List.length_cons] at hn;rw [xe0] at h;split at h
  ·have := vae9 n r (by omega) _ _ _ h; exact ⟨by simp only [List.length_cons]; omega, this.2⟩
  split at h
  ·have := vae9 n r (by omega) _ _ _ h; exact ⟨by simp only [List.length_cons]; omega, this.2⟩
  split at h
  ·have hl := zar9 r;have := vae9 n (toNl r) (by omega) _ _ _ h; exact ⟨by simp only [List.length_cons]; omega, this.2⟩
  split at h
  ·cases h
  rename_i he;have he : (tokS (b :: r)).2.2 = 0 := n'D.1 he;have hp := wG0 he;have hle := qaj9 (b :: r);have hs := xcn9 b r he;cases hr : lexR ((b :: r).drop (tokS (b :: r)).2.1) l (c + (tokS (b :: r)).2.1) with
  | err x y z => rw [hr] at h; cases h
  | ok ts' =>
   rw [hr] at h;injection h with h
   subst h;have hd : ((b :: r).drop (tokS (b :: r)).2.1).length = (b :: r).length - (tokS (b :: r)).2.1 := l'z ..;have ih := vae9 n _ (by rw [hd]; simp only [List.length_cons]; omega) _ _ _ hr;refine ⟨?_, ?_⟩
   ·have := ih.1; rw [hd] at this; simp only [List.length_cons] at *; omega
   ·intro t ht;rcases l'w.1 ht with q|q
    ·subst q;have hlen : ((b :: r).take (tokS (b :: r)).2.1).length = (tokS (b :: r)).2.1 := by rw [l'x]; omega
     refine ⟨?_, fun e => ?_⟩
     ·show tokS ((b :: r).take (tokS (b :: r)).2.1) = ((tokS (b :: r)).1, ((b :: r).take (tokS (b :: r)).2.1).length, 0);rw [hs, hlen, ← he]
     ·have : ((b :: r).take (tokS (b :: r)).2.1).length = 0 := congrArg List.length (show (b :: r).take (tokS (b :: r)).2.1 = [] from e);omega
    ·exact ih.2 t q
theorem vH0 (s : Bs) : (ofS s).1.length ≤ s.length ∧ TkOk (ofS s).1 := by
 unfold ofS;split
 ·exact ⟨n'b _, fun t ht => by cases ht⟩
 ·cases h : lexR s 1 1 with
  | ok ts => exact vae9 _ s (n'X _) _ _ _ h
  | err l c e => exact ⟨n'b _, fun t ht => by cases ht⟩
theorem kbk9 {l : List Tk} {i : Nat} {s : Bs} (hl : TkOk l) (h : wh0 l i = .ok s) : nmB s = true := by
 unfold wh0 xp0 at h;split at h
 ·rename_i hlt;simp only [PE.bind] at h;split at h
  ·rename_i hk;split at h
   ·cases h
   ·rename_i hres;injection h with h
    subst h;have hv := hl (l.getD i tk0) (by rw [l'b, l'e hlt]; exact n'z hlt);rw [hk] at hv;unfold nmB;rw [decide_eq_true ((qL0 1 _).2 hv), l'L.2 hres]; rfl
  ·cases h
 ·cases h
theorem zaO9 {l : List Tk} {most : Nat} (hl : TkOk l) : ∀ {f i : Nat} {o : List Bs} {q : List Bs × Nat}, kG0 l most f o i = .ok q → (∀ s ∈ o, nmB s = true) → o.Nodup → (∀ s ∈ q.1, nmB s = true) ∧ q.1.Nodup
 | 0, i, o, q, h => by cases h
 | f + 1, i, o, q, h => fun ho hd => by
  obtain ⟨f', s, e, hn, hc, _, _, h⟩ := var9 h;injection e with e
  subst e;have hs := kbk9 hl hn;have ho2 : ∀ x ∈ o ++ [s], nmB x = true := fun x hx => by
   rcases n'w.1 hx with q|q
   ·exact ho x q
   ·rw [n'h] at q; rw [q]; exact hs
  have hd2 : (o ++ [s]).Nodup := by
   have : ¬ s ∈ o := fun q => by rw [n'y.2 q] at hc; cases hc
   rw [List.nodup_append];refine ⟨hd, by simp, fun a ha b hb => ?_⟩;rw [n'h] at hb;subst hb;rintro rfl;exact this ha
  rcases h with ⟨_, h⟩|⟨_, h⟩
  ·rw [h]; exact ⟨ho2, hd2⟩
  ·exact zaO9 hl h ho2 hd2
theorem kak9 {l : List Tk} {w : Bs} {most i : Nat} (hl : TkOk l) {q : List Bs × Nat} (h : ql0 l w most i = .ok q) : (∀ s ∈ q.1, nmB s = true) ∧ q.1.Nodup := by
 unfold ql0 at h;cases h1 : xd0 l w i with
 | no a b => rw [h1] at h; cases h
 | ok u => rw [h1] at h; exact zaO9 hl h (fun s hs => by cases hs) List.nodup_nil
def FitR (o n : Int) (R : ER) : Prop := ∀ r ∈ R, ∀ e ∈ r, fitE o n e = true
theorem kcW9 {o n : Int} {R : ER} (h : FitR o n R) (s a : Nat) (e : Int × Int) (he : fitE o n e = true) : FitR o n (setE R s a e) := by
 intro r hr x hx;unfold setE at hr;rcases List.mem_or_eq_of_mem_set hr with q|q
 ·exact h r q x hx
 ·subst q;rcases List.mem_or_eq_of_mem_set hx with q2|q2
  ·by_cases hs : s < R.length
   ·refine h (R.getD s []) ?_ x q2;rw [l'b, l'e hs]; exact n'z hs
   ·rw [l'b, l'p (by omega)] at q2; cases q2
  ·rw [q2]; exact he
theorem xaO9 {l : List Tk} {ins outs sts : List Bs} {r : ER × Nat} : ∀ {f i : Nat} {R : ER}, kj0 l ins outs sts f R i = .ok r → FitR outs.length sts.length R → FitR outs.length sts.length r.1
 | 0, i, R, h, hR => by cases h
 | f + 1, i, R, h, hR => by
  rw [kj0] at h;split at h
  ·injection h with h; rw [← h]; exact hR
  cases he : vI0 l ins outs sts i with
  | no x y => rw [he] at h; cases h
  | ok p =>
   obtain ⟨s, a, o, t⟩ := p;obtain ⟨_, _, _, h4, _, h6, _⟩ := qP0 he;have v4 := (zH0 h4).2;have v6 := (zH0 h6).2;rw [he] at h;simp only [PE.bind] at h;split at h
   ·exact xaO9 h (kcW9 hR _ _ _ (fitE_iff.2 (.inr ⟨by simp, by simp only; omega, by simp, by simp only; omega⟩)))
   ·cases h
structure qdz9 (p : kai9) : Prop where
 nm : nmB p.name = true
 i : (∀ s ∈ p.ins, nmB s = true) ∧ p.ins.Nodup ∧ p.ins ≠ [] ∧ p.ins.length ≤ 16
 o : (∀ s ∈ p.outs, nmB s = true) ∧ p.outs.Nodup ∧ p.outs ≠ [] ∧ p.outs.length ≤ 16
 s : (∀ s ∈ p.sts, nmB s = true) ∧ p.sts.Nodup ∧ p.sts ≠ [] ∧ p.sts.length ≤ 64
 r : RectE p.sts.length p.ins.length p.rows
 f : FitR p.outs.length p.sts.length p.rows
theorem qal9 {l : List Tk} {p : kai9} (hl : TkOk l) (h : xh0 l = .ok p) (hne : p.ins ≠ [] ∧ p.outs ≠ [] ∧ p.sts ≠ []) : qdz9 p := by
 unfold xh0 at h;cases h0 : kx0 l with
 | no a b => rw [h0] at h; cases h
 | ok n =>
 rw [h0] at h;simp only [PE.bind] at h;cases h1 : ko0 l with
 | no a b => rw [h1] at h; cases h
 | ok p =>
 obtain ⟨I, O, Q, i⟩ := p;rw [h1] at h;simp only at h;have hL := vac9 h1;cases h2 : kj0 l I O Q (l.length + 1) (List.replicate Q.length (row0 I.length)) i with
 | no a b => rw [h2] at h; cases h
 | ok q =>
 rw [h2] at h;simp only at h;cases h3 : xab9 l q.2 with
 | no a b => rw [h3] at h; cases h
 | ok u =>
 rw [h3] at h;injection h with h
 subst h;obtain ⟨n1, n2, n3⟩ := hne;unfold ko0 at h1;cases g1 : ql0 l kIns 16 3 with
 | no a b => rw [g1] at h1; cases h1
 | ok u =>
 rw [g1] at h1;simp only [PE.bind] at h1;cases g2 : ql0 l kk0 16 u.2 with
 | no a b => rw [g2] at h1; cases h1
 | ok v =>
 rw [g2] at h1;simp only at h1;cases g3 : ql0 l kSts 64 v.2 with
 | no a b => rw [g3] at h1; cases h1
 | ok w =>
 rw [g3] at h1;injection h1 with h1
 simp only [Prod.mk.injEq] at h1;obtain ⟨rfl, rfl, rfl, rfl⟩ := h1;have k1 := kak9 hl g1;have k2 := kak9 hl g2;have k3 := kak9 hl g3;refine ⟨?_, ⟨k1.1, k1.2, n1, hL.1⟩, ⟨k2.1, k2.2, n2, hL.2.1⟩, ⟨k3.1, k3.2, n3, hL.2.2.1⟩, wV0 h2 (waM9 _ _), xaO9 h2 ?_⟩
 ·unfold kx0 at h0;cases m1 : xd0 l kMac 0 with
  | no a b => rw [m1] at h0; cases h0
  | ok u =>
  rw [m1] at h0;simp only [PE.bind] at h0;cases m2 : wh0 l 1 with
  | no a b => rw [m2] at h0; cases h0
  | ok s =>
  rw [m2] at h0;simp only at h0;cases m3 : xd0 l [59] 2 with
  | no a b => rw [m3] at h0; cases h0
  | ok u =>
  rw [m3] at h0;injection h0 with h0
  subst h0;exact kbk9 hl m2
 ·intro r hr e he;rw [List.eq_of_mem_replicate hr] at he;rw [List.eq_of_mem_replicate he];exact fitE_iff.2 (.inl rfl)
def gsP (p : kai9) (k ci co cs cr : Option Nat) : GS := ⟨p.name, p.ins.length, p.outs.length, 1, p.rows.map fun r => (r, k), cr, 1, p.ins, ci, 1, p.outs, co, 1, p.sts, cs⟩
theorem zF0 (p : kai9) (k ci co cs cr : Option Nat) : edgesOf (gsP p k ci co cs cr).rows = p.rows := by
 show (p.rows.map fun r => (r, k)).map (·.1) = p.rows;rw [z'l]; exact List.map_id _
theorem qcX9 {p : kai9} (h : qdz9 p) (k ci co cs cr : Option Nat) : (gsP p k ci co cs cr).V := by
 have hr := h.r;have pos : ∀ {l : List Bs}, l ≠ [] → 1 ≤ l.length := fun h => n'm.2 h;have p1 := pos h.i.2.2.1;have p2 := pos h.o.2.2.1;have p3 := pos h.s.2.2.1;have b1 := h.i.2.2.2;have b2 := h.o.2.2.2;have b3 := h.s.2.2.2;have hrl : (gsP p k ci co cs cr).rows.length = p.sts.length := by show (p.rows.map _).length = _; rw [l'B, hr.1]
 refine ⟨?_, rfl, rfl, hrl.symm, ?_, ?_⟩
 ·unfold zk0;rw [if_neg (by rw [hrl]; show ¬ ((16 : Int) < p.ins.length ∨ (16 : Int) < p.outs.length ∨ _); omega), if_neg (by rw [hrl]; show ¬ ((p.ins.length : Int) < 1 ∨ (p.outs.length : Int) < 1 ∨ _); omega), if_pos];intro j hj;rw [hrl] at hj ⊢;have hg : ((gsP p k ci co cs cr).rows.getD j ([], none)).1 = p.rows.getD j [] := by rw [← kd0, zF0]
  rw [hg];unfold waj9;have hjl : j < p.rows.length := by rw [hr.1]; exact hj
  have hmem : p.rows.getD j [] ∈ p.rows := by rw [l'b, l'e hjl]; exact n'z hjl
  rw [decide_eq_true (show ((p.rows.getD j []).length : Int) = (gsP p k ci co cs cr).i by rw [hr.2 j hj]; rfl), n'k, l'j];exact h.f _ hmem
 ·intro l hl s hs;simp only [GS.lists, gsP, l'w, l'J, or_false] at hl;rcases hl with rfl|rfl|rfl|rfl
  ·rw [n'h] at hs; rw [hs]; exact h.nm
  ·exact h.i.1 s hs
  ·exact h.o.1 s hs
  ·exact h.s.1 s hs
 ·intro l hl;simp only [GS.lists, gsP, l'w, l'J, or_false] at hl;rcases hl with rfl|rfl|rfl|rfl
  ·simp
  ·exact h.i.2.1
  ·exact h.o.2.1
  ·exact h.s.2.1
theorem zdz9 {s : Bs} (h : nmB s = true) : s.length ≤ 16 := by
 unfold nmB at h;rw [l'a, decide_eq_true_eq] at h;have hv := ((qL0 1 s).1 h.1).1;unfold tokS at hv;split at hv
 ·simp only [Prod.mk.injEq] at hv;obtain ⟨h1, h2, h3⟩ := hv;unfold zB0 at h1;have h4 := h2;split at h1
  ·split at h1
   ·rename_i q; omega
   ·cases h1
  ·split at h1 <;> cases h1
 ·split at hv
  ·simp only [Prod.mk.injEq] at hv; exact absurd hv.1 (by decide)
  ·simp only [Prod.mk.injEq] at hv; exact absurd hv.1 (by decide)
theorem qbl9 {p : kai9} (h : qdz9 p) (k ci co cs cr : Option Nat) : (gsP p k ci co cs cr).Ok := by
 have hv := qcX9 h k ci co cs cr;have hr := h.r;have b1 := h.i.2.2.2;have b2 := h.o.2.2.2;have b3 := h.s.2.2.2;have hrl : (gsP p k ci co cs cr).rows.length = p.sts.length := by show (p.rows.map _).length = _; rw [l'B, hr.1]
 refine ⟨.inr rfl, .inr rfl, .inr rfl, .inr rfl, by omega, fun j hj => ?_, by show p.ins.length ≤ _; omega, by show p.outs.length ≤ _; omega, by show p.sts.length ≤ _; omega, fun l hl s hs => by have := zdz9 (hv.nm l hl s hs); omega⟩;rw [← kd0, zF0, hr.2 j (by omega)];omega
def Dr (ts : List Tk) (i : Nat) (K : List (Int × Bs)) : Prop := (kts ts).drop i = K
theorem qi0 {ts : List Tk} {i : Nat} {k : Int} {w : Bs} {K : List (Int × Bs)} (h : Dr ts i ((k, w) :: K)) : i < ts.length ∧ (ts.getD i tk0).k = k ∧ (ts.getD i tk0).t = w ∧ Dr ts (i + 1) K := by
 unfold Dr at *;have hl : i < ts.length := by
  rcases l'h i ts.length with q|q
  ·exact q
  ·rw [l'M (by simp [kts]; omega)] at h; cases h
 have hlk : i < (kts ts).length := by simp [kts]; omega
 rw [l'K hlk] at h;injection h with h1 h2
 have e : ts.getD i tk0 = ts[i] := by rw [l'b, l'e hl]; rfl
 simp only [kts, List.getElem_map, Prod.mk.injEq] at h1;exact ⟨hl, by rw [e]; exact h1.1, by rw [e]; exact h1.2, h2⟩
theorem qaX9 {ts : List Tk} {i : Nat} (h : i < ts.length) : xp0 ts i = .ok (ts.getD i tk0) := if_pos h
theorem wD0 {ts : List Tk} {i : Nat} {k : Int} {w : Bs} {K : List (Int × Bs)} (h : Dr ts i ((k, w) :: K)) : xd0 ts w i = .ok () := by
 obtain ⟨h1, h2, h3, _⟩ := qi0 h;unfold xd0;rw [qaX9 h1];simp only [PE.bind];rw [if_pos h3]
theorem waD9 {ts : List Tk} {i : Nat} {w : Bs} {K : List (Int × Bs)} (h : Dr ts i ((1, w) :: K)) (hw : nmB w = true) : wh0 ts i = .ok w := by
 obtain ⟨h1, h2, h3, _⟩ := qi0 h;have hr : resB.contains w = false := by
  unfold nmB at hw;rw [l'a] at hw;simpa using hw.2
 unfold wh0;rw [qaX9 h1];simp only [PE.bind];rw [if_pos h2, h3, hr];rfl
theorem xdz9 {ns : List Bs} {j : Nat} (hd : ns.Nodup) (hj : j < ns.length) : idxB ns (ns.getD j []) = j := by
 have hi : idxB ns (ns.getD j []) < ns.length := by
  unfold idxB;rw [List.findIdx_lt_length];exact ⟨_, ze0 [] hj, by simp⟩
 have he : ns[idxB ns (ns.getD j [])] = ns.getD j [] := by
  have := List.findIdx_getElem (w := hi);simpa [idxB] using this
 have hg : ns.getD j [] = ns[j] := by rw [l'b, l'e hj]; rfl
 exact (z'n hd (h₀ := hi) (h₁ := hj)).1 (he.trans hg)
theorem zcX9 {ts : List Tk} {i j : Nat} {ns : List Bs} {K : List (Int × Bs)} (h : Dr ts i ((1, ns.getD j []) :: K)) (hn : ∀ s ∈ ns, nmB s = true) (hd : ns.Nodup) (hj : j < ns.length) : ofM ts ns i = .ok j := by
 unfold ofM;rw [waD9 h (hn _ (ze0 [] hj))];simp only [PE.bind];rw [xdz9 hd hj, if_pos hj]
theorem xbJ9 {ts : List Tk} {most : Nat} {K : List (Int × Bs)} : ∀ (l o : List Bs) (i f : Nat), l ≠ [] → Dr ts i (cmT l ++ (3, [59]) :: K) → (∀ s ∈ l, nmB s = true) → (o ++ l).Nodup → o.length + l.length ≤ most → l.length ≤ f → kG0 ts most f o i = .ok (o ++ l, i + 2 * l.length) ∧ Dr ts (i + 2 * l.length) K
 | [], _, _, _, h, _, _, _, _, _ => absurd rfl h
 | a :: r, o, i, 0, _, _, _, _, _, hf => absurd hf (by simp)
 | [a], o, i, f + 1, _, hD, hn, hd, hm, hf => by
  have hna := hn a l'm;have hD : Dr ts i ((1, a) :: (3, [59]) :: K) := hD;obtain ⟨_, _, _, hD1⟩ := qi0 hD;obtain ⟨h1, _, h3, hD2⟩ := qi0 hD1;have hnc : ¬ o.contains a = true := fun q => (List.nodup_append.1 hd).2.2 a (n'y.1 q) a l'm rfl;rw [kG0, waD9 hD hna];simp only [PE.bind];rw [if_neg hnc, if_neg (show ¬ o.length = most by simp only [List.length_cons] at hm; omega), qaX9 h1];simp only;rw [if_pos h3];exact ⟨rfl, hD2⟩
 | a :: b :: r, o, i, f + 1, _, hD, hn, hd, hm, hf => by
  have hna := hn a l'm;have hD : Dr ts i ((1, a) :: (3, [44]) :: (cmT (b :: r) ++ (3, [59]) :: K)) := hD;obtain ⟨_, _, _, hD1⟩ := qi0 hD;obtain ⟨h1, _, h3, hD2⟩ := qi0 hD1;have hnc : ¬ o.contains a = true := fun q => (List.nodup_append.1 hd).2.2 a (n'y.1 q) a l'm rfl;have ih := xbJ9 (most := most) (b :: r) (o ++ [a]) (i + 2) f (by simp) hD2 (fun s hs => hn s (l'v _ hs)) (by rw [l't]; exact hd) (by simp at hm ⊢; omega) (by simp at hf ⊢; omega);rw [kG0, waD9 hD hna];simp only [PE.bind];rw [if_neg hnc, if_neg (show ¬ o.length = most by simp only [List.length_cons] at hm; omega), qaX9 h1];simp only;rw [if_neg (by rw [h3]; decide), if_pos h3, ih.1];have e : i + 2 + 2 * (b :: r).length = i + 2 * (a :: b :: r).length := by simp only [List.length_cons]; omega
  rw [e] at ih;refine ⟨?_, ih.2⟩;rw [e, l't]; rfl
theorem zQ0 {ts : List Tk} {most i : Nat} {k : Int} {w : Bs} {l : List Bs} {K : List (Int × Bs)} (hD : Dr ts i ((k, w) :: (cmT l ++ (3, [59]) :: K))) (hl : l ≠ []) (hn : ∀ s ∈ l, nmB s = true) (hd : l.Nodup) (hm : l.length ≤ most) (ht : l.length ≤ ts.length) : ql0 ts w most i = .ok (l, i + 1 + 2 * l.length) ∧ Dr ts (i + 1 + 2 * l.length) K := by
 have h := xbJ9 (most := most) l [] (i + 1) (ts.length + 1) hl (qi0 hD).2.2.2 hn hd (by simpa using hm) (by omega);unfold ql0;rw [wD0 hD];exact h
theorem kby9 {ts : List Tk} {x : GS} (hv : x.V) {q : Qd} (hq : QOk x q) {i : Nat} {K : List (Int × Bs)} (h : Dr ts i (edK x q ++ K)) : vI0 ts x.ins x.outs x.sts i = .ok q ∧ Dr ts (i + 7) K ∧ zab9 ts i = false := by
 obtain ⟨h1, h2, h3, h4⟩ := hq;have n1 := hv.nm x.sts (by simp [GS.lists]);have n2 := hv.nm x.ins (by simp [GS.lists]);have n3 := hv.nm x.outs (by simp [GS.lists]);have m1 := hv.nd x.sts (by simp [GS.lists]);have m2 := hv.nd x.ins (by simp [GS.lists]);have m3 := hv.nd x.outs (by simp [GS.lists]);have D0 : Dr ts i ((1, x.sts.getD q.1 []) :: (1, x.ins.getD q.2.1 []) :: (3, [47]) :: (1, x.outs.getD q.2.2.1 []) :: (3, [45, 62]) :: (1, x.sts.getD q.2.2.2 []) :: (3, [59]) :: K) := h;have D1 := (qi0 D0).2.2.2;have D2 := (qi0 D1).2.2.2;have D3 := (qi0 D2).2.2.2;have D4 := (qi0 D3).2.2.2;have D5 := (qi0 D4).2.2.2;have D6 := (qi0 D5).2.2.2;have D7 := (qi0 D6).2.2.2;refine ⟨?_, D7, ?_⟩
 ·unfold vI0;rw [zcX9 D0 n1 m1 h1]; simp only [PE.bind];rw [zcX9 D1 n2 m2 h2]; simp only;rw [wD0 D2]; simp only;rw [zcX9 D3 n3 m3 h3]; simp only;rw [wD0 D4]; simp only;rw [zcX9 D5 n1 m1 h4]; simp only;rw [wD0 D6]
 ·unfold zab9;have hne : ¬ (ts.getD i tk0).t = kEnd := by
   rw [(qi0 D0).2.2.1];intro e;have := n1 _ (ze0 [] h1);rw [e] at this;exact absurd this (by decide)
  rw [decide_eq_false hne, n'U]
def layQ : List Qd → ER → ER
 | [], R => R
 | q :: E, R => layQ E (setE R q.1 q.2.1 ((q.2.2.2 : Int), (q.2.2.1 : Int)))
theorem wbJ9 {R : ER} {s a s' a' : Nat} {e : Int × Int} (h : ¬ (s = s' ∧ a = a')) : getE (setE R s a e) s' a' = getE R s' a' := by
 unfold getE setE;rw [l'b (l := R.set _ _), n'e];by_cases q : s = s'
 ·subst q;rw [if_pos rfl];split
  ·rw [Option.getD_some, l'b (l := (R.getD s []).set a e), l'r (fun q => h ⟨rfl, q⟩), ← l'b]
  ·rename_i q;rw [Option.getD_none, l'b (l := R), l'p (by omega)]; rfl
 ·rw [if_neg q, ← l'b]
theorem zbl9 {ts : List Tk} {x : GS} (hv : x.V) {K : List (Int × Bs)} {k : Int} : ∀ (E : List Qd) (R : ER) (i f : Nat), (∀ q ∈ E, QOk x q) → Dr ts i (E.flatMap (edK x) ++ (k, kEnd) :: K) → (E.map fun q => (q.1, q.2.1)).Nodup → (∀ q ∈ E, (getE R q.1 q.2.1).1 = -1) → E.length < f →
  kj0 ts x.ins x.outs x.sts f R i = .ok (layQ E R, i + 7 * E.length) ∧ Dr ts (i + 7 * E.length) ((k, kEnd) :: K)
 | _, _, _, 0, _, _, _, _, hf => absurd hf (Nat.not_lt_zero _)
 | [], R, i, f + 1, _, hD, _, _, _ => by
  have hD : Dr ts i ((k, kEnd) :: K) := hD;obtain ⟨h1, _, h3, _⟩ := qi0 hD;rw [kj0, if_pos (by unfold zab9; rw [decide_eq_true h1, decide_eq_true h3]; rfl)];exact ⟨rfl, hD⟩
 | q :: E, R, i, f + 1, hq, hD, hn, hR, hf => by
  rw [n'E, l't] at hD;obtain ⟨e1, e2, e3⟩ := kby9 hv (hq q l'm) hD;rw [List.map_cons, List.nodup_cons] at hn;have ih := zbl9 hv E (setE R q.1 q.2.1 ((q.2.2.2 : Int), (q.2.2.1 : Int))) (i + 7) f (fun p hp => hq p (l'v _ hp)) e2 hn.2 (fun p hp => by
   rw [wbJ9]
   ·exact hR p (l'v _ hp)
   ·rintro ⟨a, b⟩;exact hn.1 (l'Z.2 ⟨p, hp, by rw [← a, ← b]⟩)) (by simp only [List.length_cons] at hf; omega)
  rw [kj0, if_neg (by rw [e3]; decide), e1];simp only [PE.bind];rw [if_pos (hR q l'm), ih.1];have e : i + 7 + 7 * E.length = i + 7 * (q :: E).length := by simp only [List.length_cons]; omega
  rw [e] at ih ⊢;exact ⟨rfl, ih.2⟩
theorem vW0 : ∀ (l : List Bs), l ≠ [] → (cmT l).length = 2 * l.length - 1
 | [], h => absurd rfl h
 | [a], _ => rfl
 | a :: b :: r, _ => by
  have := vW0 (b :: r) (by simp);simp only [cmT, List.length_cons] at *; omega
theorem wdz9 (x : GS) (E : List Qd) : (E.flatMap (edK x)).length = 7 * E.length := by
 induction E with
 | nil => rfl
 | cons q E ih => rw [n'E, l'i, ih]; simp [edK]; omega
theorem waO9 {ts : List Tk} {x : GS} (hv : x.V) (E : List Qd) (hq : ∀ q ∈ E, QOk x q) (hn : (E.map fun q => (q.1, q.2.1)).Nodup) (h : kts ts = hdK x ++ (E.flatMap (edK x) ++ [(1, kEnd), (3, [59])])) :
  xh0 ts = .ok ⟨x.nm, x.ins, x.outs, x.sts, layQ E (List.replicate x.sts.length (row0 x.ins.length))⟩ := by
 have m := kE0 hv.m;have c1 := hv.ci;have c2 := hv.co;have c3 := hv.cs;have e1 : x.ins ≠ [] := fun e => by rw [e] at c1; simp at c1; omega
 have e2 : x.outs ≠ [] := fun e => by rw [e] at c2; simp at c2; omega
 have e3 : x.sts ≠ [] := fun e => by rw [e] at c3; simp at c3; omega
 have hlen : ts.length = (hdK x ++ (E.flatMap (edK x) ++ [(1, kEnd), (3, [59])])).length := by rw [← h]; simp [kts]
 have l1 := vW0 _ e1;have l2 := vW0 _ e2;have l3 := vW0 _ e3;have l4 := wdz9 x E;simp only [hdK, l'i, List.length_cons, List.length_nil, l1, l2, l3, l4] at hlen;have D0 : Dr ts 0 ((1, kMac) :: (1, x.nm) :: (3, [59]) :: (1, kIns) :: (cmT x.ins ++ (3, [59]) :: (1, kk0) :: (cmT x.outs ++ (3, [59]) :: (1, kSts) :: (cmT x.sts ++ (3, [59]) :: (E.flatMap (edK x) ++ [(1, kEnd), (3, [59])]))))) := by
  show (kts ts).drop 0 = _;rw [h]; simp [hdK]
 have D1 := (qi0 D0).2.2.2;have D2 := (qi0 D1).2.2.2;have D3 := (qi0 D2).2.2.2;have n0 := hv.nm [x.nm] (by simp [GS.lists]) _ l'm;have hh : kx0 ts = .ok x.nm := by
  unfold kx0;rw [wD0 D0]; simp only [PE.bind];rw [waD9 D1 n0]; simp only;rw [wD0 D2]
 obtain ⟨g1, D4⟩ := zQ0 (most := 16) D3 e1 (hv.nm x.ins (by simp [GS.lists])) (hv.nd x.ins (by simp [GS.lists])) (by omega) (by omega);obtain ⟨g2, D5⟩ := zQ0 (most := 16) D4 e2 (hv.nm x.outs (by simp [GS.lists])) (hv.nd x.outs (by simp [GS.lists])) (by omega) (by omega);obtain ⟨g3, D6⟩ := zQ0 (most := 64) D5 e3 (hv.nm x.sts (by simp [GS.lists])) (hv.nd x.sts (by simp [GS.lists])) (by omega) (by omega);have hl : ko0 ts = .ok (x.ins, x.outs, x.sts, 0 + 1 + 1 + 1 + 1 + 2 * x.ins.length + 1 + 2 * x.outs.length + 1 + 2 * x.sts.length) := by
  unfold ko0;rw [show (3 : Nat) = 0 + 1 + 1 + 1 from rfl, g1]; simp only [PE.bind];rw [g2]; simp only;rw [g3]
 have hR0 : ∀ q ∈ E, (getE (List.replicate x.sts.length (row0 x.ins.length)) q.1 q.2.1).1 = -1 := fun q hq' => by
  obtain ⟨a, b, _, _⟩ := hq q hq';simp [getE, row0, a, b]
 obtain ⟨g4, D7⟩ := zbl9 hv E (List.replicate x.sts.length (row0 x.ins.length)) _ (ts.length + 1) hq D6 hn hR0 (by omega);unfold xh0;rw [hh]; simp only [PE.bind];rw [hl]; simp only;rw [g4]; simp only;have ht : xab9 ts (0 + 1 + 1 + 1 + 1 + 2 * x.ins.length + 1 + 2 * x.outs.length + 1 + 2 * x.sts.length + 7 * E.length) = .ok () := by
  unfold xab9;rw [wD0 D7]; simp only [PE.bind];rw [wD0 (qi0 D7).2.2.2]; simp only;rw [if_neg (by omega)]
 rw [ht]
theorem xbl9 {n k : Nat} : ∀ (E : List Qd) {R : ER}, RectE n k R → RectE n k (layQ E R)
 | [], R, h => h
 | q :: E, R, h => xbl9 E (vA0 h _ _ _)
theorem vaD9 {s a : Nat} : ∀ (E : List Qd) (R : ER), (∀ q ∈ E, ¬ (q.1 = s ∧ q.2.1 = a)) → getE (layQ E R) s a = getE R s a
 | [], R, _ => rfl
 | q :: E, R, h => by
  rw [layQ, vaD9 E _ fun p hp => h p (l'v _ hp), wbJ9 (h q l'm)]
theorem wbl9 {n k : Nat} {R : ER} (hR : RectE n k R) {s a : Nat} (hs : s < n) (ha : a < k) (e : Int × Int) : getE (setE R s a e) s a = e := by
 have h1 : s < R.length := by rw [hR.1]; exact hs
 have h2 : a < (R.getD s []).length := by rw [hR.2 s hs]; exact ha
 unfold getE setE;rw [l'b (l := R.set _ _), l'o h1, Option.getD_some, l'b (l := List.set _ _ _), l'o h2]; rfl
theorem vbJ9 {n k : Nat} : ∀ (E : List Qd) (R : ER), RectE n k R → (E.map fun q => (q.1, q.2.1)).Nodup → (∀ q ∈ E, q.1 < n ∧ q.2.1 < k) → ∀ q ∈ E, getE (layQ E R) q.1 q.2.1 = ((q.2.2.2 : Int), (q.2.2.1 : Int))
 | [], R, _, _, _, q, h => by cases h
 | p :: E, R, hR, hn, hb, q, h => by
  rw [List.map_cons, List.nodup_cons] at hn;rw [layQ];rcases l'w.1 h with rfl|h
  ·rw [vaD9 E _ fun r hr e => hn.1 (l'Z.2 ⟨r, hr, by rw [e.1, e.2]⟩)];exact wbl9 hR (hb q l'm).1 (hb q l'm).2 _
  ·exact vbJ9 E _ (vA0 hR _ _ _) hn.2 (fun r hr => hb r (l'v _ hr)) q h
theorem xcX9 {n k : Nat} {R S : ER} (hR : RectE n k R) (hS : RectE n k S) (h : ∀ s a, s < n → a < k → getE R s a = getE S s a) : R = S := by
 refine n'I (by rw [hR.1, hS.1]) fun s h1 h2 => ?_;have hs : s < n := by rw [← hR.1]; exact h1
 have r1 := hR.2 s hs;have r2 := hS.2 s hs;have g1 : R.getD s [] = R[s] := by rw [l'b, l'e h1]; rfl
 have g2 : S.getD s [] = S[s] := by rw [l'b, l'e h2]; rfl
 rw [← g1, ← g2];refine n'I (by rw [r1, r2]) fun a h3 h4 => ?_;have := h s a hs (by omega);unfold getE at this;rw [l'b (l := R.getD s []), l'b (l := S.getD s []), l'e h3, l'e h4] at this;exact this
def rowQ (x : GS) (s k : Nat) : List Qd := (List.range k).flatMap fun i => if ((x.row s).getD i (0, 0)).1 = -1 then [] else [(s, i, ((x.row s).getD i (0, 0)).2.toNat, ((x.row s).getD i (0, 0)).1.toNat)]
def allQ' (x : GS) : List Qd := (List.range x.rows.length).flatMap fun s => rowQ x s (x.row s).length
theorem mem_allQ {x : GS} {q : Qd} : q ∈ allQ' x ↔ q.1 < x.rows.length ∧ q.2.1 < (x.row q.1).length ∧ ((x.row q.1).getD q.2.1 (0, 0)).1 ≠ -1 ∧ q.2.2.1 = ((x.row q.1).getD q.2.1 (0, 0)).2.toNat ∧ q.2.2.2 = ((x.row q.1).getD q.2.1 (0, 0)).1.toNat := by
 obtain ⟨s, i, o, t⟩ := q;unfold allQ' rowQ;simp only [List.mem_flatMap, l'U];constructor
 ·rintro ⟨s', hs, i', hi, h⟩;split at h
  ·cases h
  ·rename_i hne;simp only [n'h, Prod.mk.injEq] at h;obtain ⟨rfl, rfl, rfl, rfl⟩ := h;exact ⟨hs, hi, hne, rfl, rfl⟩
 ·rintro ⟨hs, hi, hne, h1, h2⟩;refine ⟨s, hs, i, hi, ?_⟩;rw [if_neg hne, h1, h2]; exact l'm
theorem kaD9 (x : GS) : ((allQ' x).map fun q => (q.1, q.2.1)).Nodup := by
 have key : ∀ (s k : Nat), (rowQ x s k).map (fun q => (q.1, q.2.1)) = ((List.range k).filter fun i => decide (((x.row s).getD i (0, 0)).1 ≠ -1)).map fun i => (s, i) := fun s k => by
  unfold rowQ;induction (List.range k) with
  | nil => rfl
  | cons i r ih =>
   rw [n'E, n'c, ih, List.filter_cons];by_cases h : ((x.row s).getD i (0, 0)).1 = -1
   ·rw [if_pos h, if_neg (by rw [decide_eq_false (fun q => q h)]; decide)]; rfl
   ·rw [if_neg h, if_pos (by rw [decide_eq_true h])]; rfl
 unfold allQ';rw [List.map_flatMap];unfold List.Nodup;rw [List.pairwise_flatMap];refine ⟨fun s hs => ?_, ?_⟩
 ·rw [key, List.pairwise_map];exact ((List.nodup_range (n := (x.row s).length)).filter _).imp fun h e => h (Prod.mk.inj e).2
 ·refine (List.nodup_range (n := x.rows.length)).imp fun {a b} hab p hp q hq e => ?_;rw [key] at hp hq;obtain ⟨i, _, rfl⟩ := l'Z.1 hp;obtain ⟨j, _, h⟩ := l'Z.1 hq;rw [← h] at e;exact hab (Prod.mk.inj e).1
theorem xQ0 {x : GS} (hv : x.V) : RectE x.sts.length x.ins.length (edgesOf x.rows) := by
 refine ⟨by rw [waB9, hv.cs], fun s hs => ?_⟩;have h3 := (vd0 hv.m).2.2.2.1 s (by rw [← hv.cs]; exact hs);have := hv.ci;rw [kd0];omega
theorem kbJ9 (x : GS) (s i : Nat) (h : i < (x.row s).length) : (x.row s).getD i (0, 0) = getE (edgesOf x.rows) s i := by
 unfold getE;rw [kd0];show (x.row s).getD i (0, 0) = (x.row s).getD i (-1, -1);rw [l'b, l'b, l'e h]; rfl
theorem qbz9 {x : GS} (hv : x.V) {s i : Nat} (hs : s < x.sts.length) (hi : i < x.ins.length) : fitE x.outs.length x.sts.length (getE (edgesOf x.rows) s i) = true := by
 have hr := xQ0 hv;have hl : s < x.rows.length := by rw [← hv.cs]; exact hs
 have hf := (vd0 hv.m).2.2.2.2 s hl;rw [l'j, ← hv.co, ← hv.cs] at hf;have hlen := hr.2 s hs;unfold getE;rw [kd0] at hlen ⊢;exact hf _ (ze0 _ (by omega))
theorem qbK9 {x : GS} (hv : x.V) {E : List Qd} (hE : E.Perm (allQ' x)) : layQ E (List.replicate x.sts.length (row0 x.ins.length)) = edgesOf x.rows := by
 have hr := xQ0 hv;have hk : (E.map fun q => (q.1, q.2.1)).Nodup := ((hE.map _).nodup_iff).2 (kaD9 x);have hrow : ∀ s, s < x.sts.length → (x.row s).length = x.ins.length := fun s hs => by
  have := hr.2 s hs; rw [kd0] at this; exact this
 have hb : ∀ q ∈ E, q.1 < x.sts.length ∧ q.2.1 < x.ins.length := fun q hq => by
  obtain ⟨h1, h2, _⟩ := mem_allQ.1 (hE.mem_iff.1 hq);rw [← hv.cs] at h1;exact ⟨h1, by rw [← hrow _ h1]; exact h2⟩
 refine xcX9 (xbl9 E (waM9 _ _)) hr fun s a hs ha => ?_;have hra := hrow s hs;have hge := kbJ9 x s a (by omega);by_cases h1 : (getE (edgesOf x.rows) s a).1 = -1
 ·rw [vaD9 E _ fun q hq e => ?_]
  ·have hf := qbz9 hv hs ha;rcases fitE_iff.1 hf with q|q
   ·rw [q]; simp [getE, row0, hs, ha]
   ·omega
  ·obtain ⟨_, _, h3, _⟩ := mem_allQ.1 (hE.mem_iff.1 hq);rw [e.1, e.2, hge] at h3;exact h3 h1
 ·have hm : ((s, a, (getE (edgesOf x.rows) s a).2.toNat, (getE (edgesOf x.rows) s a).1.toNat) : Qd) ∈ E := by
   rw [hE.mem_iff, mem_allQ];simp only;rw [hge];exact ⟨by rw [← hv.cs]; exact hs, by omega, h1, rfl, rfl⟩
  rw [vbJ9 E _ (waM9 _ _) hk hb _ hm];have hf := qbz9 hv hs ha;rcases fitE_iff.1 hf with q|q
  ·rw [q] at h1; exact absurd rfl h1
  ·simp only;rw [z'a q.1, z'a q.2.2.1]
theorem xdP9 (x : GS) (s : Nat) : ∀ k, rowT x s k = (rowQ x s k).flatMap (edT x) := fun k => by
 unfold rowT rowQ;rw [List.flatMap_assoc];refine congrArg (fun f => (List.range k).flatMap f) (funext fun i => ?_);unfold eLn;split
 ·rfl
 ·simp [edT]
theorem vdz9 (x : GS) : vao9 x x.rows.length = (allQ' x).flatMap (edT x) := by
 unfold vao9 allQ';rw [List.flatMap_assoc];exact congrArg (fun f => (List.range x.rows.length).flatMap f) (funext fun s => xdP9 x s _)
theorem qaE9 {x : GS} (hv : x.V) : ∀ q ∈ allQ' x, QOk x q := fun q hq => by
 obtain ⟨h1, h2, h3, h4, h5⟩ := mem_allQ.1 hq;have hr := xQ0 hv;rw [← hv.cs] at h1;have hl := hr.2 q.1 h1;rw [kd0] at hl;have h2' : q.2.1 < x.ins.length := by rw [← hl]; exact h2
 have hf := qbz9 hv h1 h2';rw [kbJ9 x _ _ h2] at h3 h4 h5;rcases fitE_iff.1 hf with e|e
 ·rw [e] at h3; exact absurd rfl h3
 ·refine ⟨h1, h2', ?_, ?_⟩
  ·rw [h4]; omega
  ·rw [h5]; omega
theorem zaX9 {x : GS} (hv : x.V) (g : Bs) (hg : ∀ s ks, Lx s ks → Lx (g ++ s) ks) : ∀ (E : List Qd), (∀ q ∈ E, QOk x q) → ∀ (s : Bs) (ks : List (Int × Bs)), Lx s ks → Lx (E.flatMap (fun q => edT x q ++ g) ++ s) (E.flatMap (edK x) ++ ks)
 | [], _, s, ks, h => h
 | q :: E, hq, s, ks, h => by
  rw [n'E, n'E, l't, l't, l't];exact xby9 hv (hq q l'm) (hg _ _ (zaX9 hv g hg E (fun p hp => hq p (l'v _ hp)) s ks h))
theorem vbl9 : qk0 1 kEnd := ⟨by decide, by decide⟩
theorem kdz9 {x : GS} (hv : x.V) : Lx (qy0 x) (hdK x ++ ((allQ' x).flatMap (edK x) ++ [(1, kEnd), (3, [59])])) := by
 have h := wby9 hv (zaX9 hv [] (fun s ks h => h) (allQ' x) (qaE9 hv) _ _ (qcz9 vbl9 vbI9));have e : qy0 x = zn0 x ++ ((allQ' x).flatMap (fun q => edT x q ++ []) ++ (kEnd ++ 59 :: 10 :: [])) := by
  unfold qy0;rw [vdz9];simp [lnL, Lib.join_one]
 rw [e]; exact h
theorem zbz9 {x : GS} (hv : x.V) (hl : (qy0 x).length ≤ 65536) : ∃ ts, ofS (qy0 x) = (ts, 0, 0, 0) ∧ xh0 ts = .ok ⟨x.nm, x.ins, x.outs, x.sts, edgesOf x.rows⟩ := by
 obtain ⟨ts, h1, h2⟩ := kdz9 hv 1 1;refine ⟨ts, ?_, ?_⟩
 ·unfold ofS;rw [if_neg (by omega), h1]; rfl
 ·rw [waO9 hv (allQ' x) (qaE9 hv) (kaD9 x) h2, qbK9 hv (List.Perm.refl _)]
end Go.Proofs
