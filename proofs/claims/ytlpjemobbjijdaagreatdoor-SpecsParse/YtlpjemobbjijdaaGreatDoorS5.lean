import Derived.Test.YtlpjemobbjijdaaGreatDoorS3
import Derived.Test.YtlpjemobbjijdaaGreatDoorV69
import Derived.Test.YtlpjemobbjijdaaGreatDoorV53
namespace Go.Proofs
open Go Go.V
set_option linter.unusedVariables false
set_option linter.unusedSimpArgs false
set_option maxHeartbeats 0
set_option maxRecDepth 100000
theorem zbk9 (l : List Bs) (s : Bs) : (idxB l s < l.length → idxI l s = (idxB l s : Int)) ∧ (¬ idxB l s < l.length → idxI l s = -1) := by
 unfold idxI idxB
 induction l with
 | nil => exact ⟨fun h => by simp at h, fun _ => rfl⟩
 | cons x xs ih =>
  rw [idxL, List.findIdx_cons, List.length_cons]
  cases decide (x = s) with
  | true => exact ⟨fun _ => rfl, fun h => by simp at h⟩
  | false =>
   simp only [cond_false, Bool.false_eq_true, if_false]
   refine ⟨fun h => ?_, fun h => ?_⟩
   ·rw [ih.1 (by omega), if_neg (by omega)]; omega
   ·rw [ih.2 (by omega)]; rfl
section
variable {H : List Blk} {b : Nat} {ts : List Tk} {c : Option Nat} {x0 x1 x2 x3 x4 x5 x6 : AV}
theorem kaY9 (ns : List Bs) (cn : Option Nat) (i k : Nat) (hm : ofM ts ns i = .ok k) (hb : H[b]? = some (rdB ts c i x0 x1 x2 x3 x4 x5 x6)) (hn : ns.length ≤ 1000000) (hl : ts.length ≤ 1000000) (hbel : ∀ j : Int, (H.set b (rdB ts c j x0 x1 x2 x3 x4 x5 x6)).all (Blk.below H.length) = true) :
  ka0 Tryz.prog G0 107 [.ptr b 0 0 1, .sl 1 (strs ns) cn] H (.int .i64 k) (H.set b (rdB ts c ((i : Int) + 1) x0 x1 x2 x3 x4 x5 x6)) := by
 unfold ofM at hm
 cases hq : qh0 ts i with
 | no i e => rw [hq] at hm; cases hm
 | ok s =>
  rw [hq] at hm
  simp only [PE.bind] at hm
  split at hm
  ·rename_i hlt
   injection hm with hm
   subst hm
   have h1 := zad9 s i hq hb hl hbel
   have h2 := vbj9 1 ns cn s (.inr rfl) hn
   rw [(zbk9 ns s).1 hlt] at h2
   have hid : ∀ p, idsE p (strs ns) = true := fun p => za0 _ _
   generalize strs ns = SL at *
   generalize idxB ns s = k at *
   refine vl0 20 [.tmp 4] Tryz.func107 rfl rfl rfl (by simp) ?_
   intro s ⟨a0, a1, hz⟩
   simp only [Nat.zero_add, Nat.reduceAdd] at a1
   clear hz
   repeat' (first|refine nav ?_|(refine g0_ ?_; refine goD ?_)|with_reducible refine gG ?_ ?_|((with_reducible refine And.intro (fun h => ?_) (fun h => ?_)) <;> try (exfalso; omega))|with_reducible refine andG ?_|(first|(refine ⟨_, _, h1, ?_⟩)|(refine ⟨_, h1, ?_⟩)|(refine ⟨_, fun _ => h1, ?_⟩)|(refine ⟨_, _, pc_lift h2 (by simp [idsL, idsE, AV.ids, hid]) _, ?_⟩)|(refine ⟨_, pc_lift h2 (by simp [idsL, idsE, AV.ids, hid]) _, ?_⟩)|(refine ⟨_, fun _ => pc_lift h2 (by simp [idsL, idsE, AV.ids, hid]) _, ?_⟩))|simp (disch := try exact discB) only [push_cast, simprocAttr, a0, a1])
  ·cases hm
theorem wcx9 (ns : List Bs) (cn : Option Nat) (i k : Nat) (e : Int) (hm : ofM ts ns i = .no k e) (hi : i ≤ ts.length) (hb : H[b]? = some (rdB ts c i x0 x1 x2 x3 x4 x5 x6)) (hn : ns.length ≤ 1000000) (hl : ts.length ≤ 1000000) (hbel : ∀ j : Int, (H.set b (rdB ts c j x0 x1 x2 x3 x4 x5 x6)).all (Blk.below H.length) = true) :
  APan Tryz.prog G0 107 [.ptr b 0 0 1, .sl 1 (strs ns) cn] H (fltV k e) (H.set b (rdB ts c (jnR ts k) x0 x1 x2 x3 x4 x5 x6)) := by
 unfold ofM at hm
 have hid : ∀ p, idsE p (strs ns) = true := fun p => za0 _ _
 cases hq : qh0 ts i with
 | no i1 e1 =>
  rw [hq] at hm
  injection hm with q1 q2
  subst q1 q2
  have hn := qbk9 i i1 e1 hq hi hb hl hbel
  generalize strs ns = SL at *
  refine zi0 20 Tryz.func107 rfl rfl (by simp) ?_
  intro s ⟨a0, a1, hz⟩
  simp only [Nat.zero_add, Nat.reduceAdd] at a1
  clear hz
  repeat' (first|(first|(with_reducible refine kb0 (p := [0, 1]) ?_)|refine nav ?_|(refine g0_ ?_; first|refine goD ?_))|with_reducible refine gG ?_ ?_|((with_reducible refine And.intro (fun h => ?_) (fun h => ?_)) <;> try (exfalso; omega))|with_reducible refine andG ?_|simp (disch := try exact discB) only [push_cast, simprocAttr, a0, a1])
  refine Halt.mk ?_
  refine vg0 (p := [0, 1]) 2 (by rfl) (by rfl) (by rfl) (by rfl) ?_
  repeat' (first|refine nav ?_|(refine g0_ ?_; refine goD ?_)|with_reducible refine gG ?_ ?_|((with_reducible refine And.intro (fun h => ?_) (fun h => ?_)) <;> try (exfalso; omega))|with_reducible refine andG ?_|simp (disch := try exact discB) only [push_cast, simprocAttr, a0, a1])
  exact wd0 trivial rfl rfl rfl wcu9 rfl hn ⟨rfl, .inl rfl⟩
 | ok s =>
  rw [hq] at hm
  simp only [PE.bind] at hm
  split at hm
  ·cases hm
  ·rename_i hlt
   injection hm with q1 q2
   subst q1 q2
   have h1 := zad9 s i hq hb hl hbel
   have h2 := vbj9 1 ns cn s (.inr rfl) hn
   rw [(zbk9 ns s).2 hlt] at h2
   rw [show jnR ts i = (i : Int) + 1 by have := qx0 hq; unfold jnR; omega]
   have hlb := (List.getElem?_eq_some_iff.1 hb).1
   have hb1 : ∀ X, (H.set b X)[b]? = some X := fun X => List.getElem?_set_self hlb
   have hi2 : (i : Int) + 1 - 1 = i := by omega
   have hf := fun H => wG0 H (.ptr b 0 0 1) i 7
   generalize strs ns = SL at *
   unfold rdB rdC at *
   refine zi0 20 Tryz.func107 rfl rfl (by simp) ?_
   intro s ⟨a0, a1, hz⟩
   simp only [Nat.zero_add, Nat.reduceAdd] at a1
   clear hz
   repeat' (first|(first|(with_reducible refine kb0 (p := [0, 1, 0, 1, 1]) ?_)|refine nav ?_|(refine g0_ ?_; first|refine goD ?_))|with_reducible refine gG ?_ ?_|((with_reducible refine And.intro (fun h => ?_) (fun h => ?_)) <;> try (exfalso; omega))|with_reducible refine andG ?_|(first|(refine ⟨_, _, h1, ?_⟩)|(refine ⟨_, h1, ?_⟩)|(refine ⟨_, fun _ => h1, ?_⟩)|(refine ⟨_, _, pc_lift h2 (by simp [idsL, idsE, AV.ids, hid]) _, ?_⟩)|(refine ⟨_, pc_lift h2 (by simp [idsL, idsE, AV.ids, hid]) _, ?_⟩)|(refine ⟨_, fun _ => pc_lift h2 (by simp [idsL, idsE, AV.ids, hid]) _, ?_⟩))|simp (disch := try exact discB) only [push_cast, simprocAttr, a0, a1, hb1, hi2])
   refine Halt.mk ?_
   refine vg0 (p := [0, 1, 0, 1, 1]) 6 (by rfl) (by rfl) (by rfl) (by rfl) ?_
   repeat' (first|refine nav ?_|(refine g0_ ?_; refine goD ?_)|with_reducible refine gG ?_ ?_|((with_reducible refine And.intro (fun h => ?_) (fun h => ?_)) <;> try (exfalso; omega))|with_reducible refine andG ?_|(first|(refine ⟨_, _, h1, ?_⟩)|(refine ⟨_, h1, ?_⟩)|(refine ⟨_, fun _ => h1, ?_⟩)|(refine ⟨_, _, pc_lift h2 (by simp [idsL, idsE, AV.ids, hid]) _, ?_⟩)|(refine ⟨_, pc_lift h2 (by simp [idsL, idsE, AV.ids, hid]) _, ?_⟩)|(refine ⟨_, fun _ => pc_lift h2 (by simp [idsL, idsE, AV.ids, hid]) _, ?_⟩))|simp (disch := try exact discB) only [push_cast, simprocAttr, a0, a1, hb1, hi2])
   exact wd0 trivial rfl rfl rfl was9 rfl (hf _) ⟨rfl, .inl rfl⟩
theorem wcU9 (i : Nat) (hm : kah9 ts i = .ok ()) (hb : H[b]? = some (rdB ts c i x0 x1 x2 x3 x4 x5 x6)) (hl : ts.length ≤ 1000000) (hbel : ∀ j : Int, (H.set b (rdB ts c j x0 x1 x2 x3 x4 x5 x6)).all (Blk.below H.length) = true) :
  ∃ j : Int, ka0 Tryz.prog G0 68 [.ptr b 0 0 1] H (.tup []) (H.set b (rdB ts c j x0 x1 x2 x3 x4 x5 x6)) := by
 have hlb := (List.getElem?_eq_some_iff.1 hb).1
 have hb1 : ∀ X, (H.set b X)[b]? = some X := fun X => List.getElem?_set_self hlb
 have hbl2 : ∀ X : Blk, (H.set b X).length = H.length := fun X => List.length_set ..
 have hss : ∀ X Y : Blk, (H.set b X).set b Y = H.set b Y := fun X Y => List.set_set ..
 unfold kah9 at hm
 cases h1 : zd0 ts kEnd i with
 | no i e => rw [h1] at hm; cases hm
 | ok u1 =>
  rw [h1] at hm
  simp only [PE.bind] at hm
  cases h2 : zd0 ts [59] (i + 1) with
  | no i e => rw [h2] at hm; cases hm
  | ok u2 =>
   rw [h2] at hm
   simp only [PE.bind] at hm
   split at hm
   ·cases hm
   rename_i hge
   have c1 := xn0 kEnd i h1 hb hl hbel
   have c2 := xn0 (H := H.set b (rdB ts c ((i : Int) + 1) x0 x1 x2 x3 x4 x5 x6)) [59] (i + 1) h2 (hb1 _) hl (by intro j; rw [hss, hbl2]; exact hbel j)
   rw [hss] at c2
   have htl := vc0 ts
   have hq : ¬ ((i + 1 : Nat) : Int) + 1 < (ts.length : Int) := by omega
   refine ⟨((i + 1 : Nat) : Int) + 1, ?_⟩
   generalize ((i + 1 : Nat) : Int) = i1 at *
   unfold rdB rdC kEnd at *
   generalize tks ts = TS at *
   refine vl0 22 [] Tryz.func68 rfl rfl rfl (by simp) ?_
   intro s ⟨a0, hz⟩
   clear hz
   repeat' (first|refine nav ?_|(refine g0_ ?_; refine goD ?_)|with_reducible refine gG ?_ ?_|((with_reducible refine And.intro (fun h => ?_) (fun h => ?_)) <;> try (exfalso; omega))|with_reducible refine andG ?_|(first|(refine ⟨_, _, c1, ?_⟩)|(refine ⟨_, c1, ?_⟩)|(refine ⟨_, fun _ => c1, ?_⟩)|(refine ⟨_, _, c2, ?_⟩)|(refine ⟨_, c2, ?_⟩)|(refine ⟨_, fun _ => c2, ?_⟩))|simp (disch := try exact discB) only [push_cast, simprocAttr, a0, hb1, htl, hq])
theorem vcU9 (i k : Nat) (e : Int) (hm : kah9 ts i = .no k e) (hi : i ≤ ts.length) (hb : H[b]? = some (rdB ts c i x0 x1 x2 x3 x4 x5 x6)) (hl : ts.length ≤ 1000000) (hbel : ∀ j : Int, (H.set b (rdB ts c j x0 x1 x2 x3 x4 x5 x6)).all (Blk.below H.length) = true) :
  ∃ j : Int, APan Tryz.prog G0 68 [.ptr b 0 0 1] H (fltV k e) (H.set b (rdB ts c j x0 x1 x2 x3 x4 x5 x6)) := by
 have hlb := (List.getElem?_eq_some_iff.1 hb).1
 have hb1 : ∀ X, (H.set b X)[b]? = some X := fun X => List.getElem?_set_self hlb
 have hbl2 : ∀ X : Blk, (H.set b X).length = H.length := fun X => List.length_set ..
 have hss : ∀ X Y : Blk, (H.set b X).set b Y = H.set b Y := fun X Y => List.set_set ..
 unfold kah9 at hm
 cases h1 : zd0 ts kEnd i with
 | no i1 e1 =>
  rw [h1] at hm
  injection hm with q1 q2
  subst q1 q2
  have hn := vG0 kEnd i i1 e1 h1 hi hb hl hbel
  refine ⟨jnR ts i1, ?_⟩
  unfold kEnd at *
  refine zi0 22 Tryz.func68 rfl rfl (by simp) ?_
  intro s ⟨a0, hz⟩
  clear hz
  repeat' (first|(first|(with_reducible refine kb0 (p := [0]) ?_)|refine nav ?_|(refine g0_ ?_; first|refine goD ?_))|with_reducible refine gG ?_ ?_|((with_reducible refine And.intro (fun h => ?_) (fun h => ?_)) <;> try (exfalso; omega))|with_reducible refine andG ?_|simp (disch := try exact discB) only [push_cast, simprocAttr, a0])
  refine Halt.mk ?_
  refine vg0 (p := [0]) 1 (by rfl) (by rfl) (by rfl) (by rfl) ?_
  repeat' (first|refine nav ?_|(refine g0_ ?_; refine goD ?_)|with_reducible refine gG ?_ ?_|((with_reducible refine And.intro (fun h => ?_) (fun h => ?_)) <;> try (exfalso; omega))|with_reducible refine andG ?_|simp (disch := try exact discB) only [push_cast, simprocAttr, a0])
  exact wd0 trivial rfl rfl rfl xaL9 rfl hn ⟨rfl, .inl rfl⟩
 | ok u1 =>
  rw [h1] at hm
  simp only [PE.bind] at hm
  have c1 := xn0 kEnd i h1 hb hl hbel
  have hit := qk0 h1
  cases h2 : zd0 ts [59] (i + 1) with
  | no i1 e1 =>
   rw [h2] at hm
   injection hm with q1 q2
   subst q1 q2
   have hn := vG0 (H := H.set b (rdB ts c ((i : Int) + 1) x0 x1 x2 x3 x4 x5 x6)) [59] (i + 1) i1 e1 h2 (by omega) (hb1 _) hl (by intro j; rw [hss, hbl2]; exact hbel j)
   rw [hss] at hn
   refine ⟨jnR ts i1, ?_⟩
   unfold kEnd at *
   refine zi0 22 Tryz.func68 rfl rfl (by simp) ?_
   intro s ⟨a0, hz⟩
   clear hz
   repeat' (first|(first|(with_reducible refine kb0 (p := [0, 1]) ?_)|refine nav ?_|(refine g0_ ?_; first|refine goD ?_))|with_reducible refine gG ?_ ?_|((with_reducible refine And.intro (fun h => ?_) (fun h => ?_)) <;> try (exfalso; omega))|with_reducible refine andG ?_|(first|(refine ⟨_, _, c1, ?_⟩)|(refine ⟨_, c1, ?_⟩)|(refine ⟨_, fun _ => c1, ?_⟩))|simp (disch := try exact discB) only [push_cast, simprocAttr, a0])
   refine Halt.mk ?_
   refine vg0 (p := [0, 1]) 1 (by rfl) (by rfl) (by rfl) (by rfl) ?_
   repeat' (first|refine nav ?_|(refine g0_ ?_; refine goD ?_)|with_reducible refine gG ?_ ?_|((with_reducible refine And.intro (fun h => ?_) (fun h => ?_)) <;> try (exfalso; omega))|with_reducible refine andG ?_|(first|(refine ⟨_, _, c1, ?_⟩)|(refine ⟨_, c1, ?_⟩)|(refine ⟨_, fun _ => c1, ?_⟩))|simp (disch := try exact discB) only [push_cast, simprocAttr, a0])
   exact wd0 trivial rfl rfl rfl xaL9 rfl hn ⟨rfl, .inl rfl⟩
  | ok u2 =>
   rw [h2] at hm
   simp only [PE.bind] at hm
   split at hm
   ·rename_i hlt
    injection hm with q1 q2
    subst q1 q2
    have c2 := xn0 (H := H.set b (rdB ts c ((i : Int) + 1) x0 x1 x2 x3 x4 x5 x6)) [59] (i + 1) h2 (hb1 _) hl (by intro j; rw [hss, hbl2]; exact hbel j)
    rw [hss] at c2
    have htl := vc0 ts
    have hf := fun H => wG0 H (.ptr b 0 0 1) (i + 2) 4
    rw [show ((i + 2 : Nat) : Int) = ((i + 1 : Nat) : Int) + 1 by omega] at hf
    have hq : ((i + 1 : Nat) : Int) + 1 < (ts.length : Int) := by omega
    refine ⟨((i + 1 : Nat) : Int) + 1, ?_⟩
    generalize ((i + 1 : Nat) : Int) = i1 at *
    unfold rdB rdC kEnd at *
    generalize tks ts = TS at *
    refine zi0 22 Tryz.func68 rfl rfl (by simp) ?_
    intro s ⟨a0, hz⟩
    clear hz
    repeat' (first|(first|(with_reducible refine kb0 (p := [0, 1, 1, 1]) ?_)|refine nav ?_|(refine g0_ ?_; first|refine goD ?_))|with_reducible refine gG ?_ ?_|((with_reducible refine And.intro (fun h => ?_) (fun h => ?_)) <;> try (exfalso; omega))|with_reducible refine andG ?_|(first|(refine ⟨_, _, c1, ?_⟩)|(refine ⟨_, c1, ?_⟩)|(refine ⟨_, fun _ => c1, ?_⟩)|(refine ⟨_, _, c2, ?_⟩)|(refine ⟨_, c2, ?_⟩)|(refine ⟨_, fun _ => c2, ?_⟩))|simp (disch := try exact discB) only [push_cast, simprocAttr, a0, hb1, htl, hq])
    refine Halt.mk ?_
    refine vg0 (p := [0, 1, 1, 1]) 5 (by rfl) (by rfl) (by rfl) (by rfl) ?_
    repeat' (first|refine nav ?_|(refine g0_ ?_; refine goD ?_)|with_reducible refine gG ?_ ?_|((with_reducible refine And.intro (fun h => ?_) (fun h => ?_)) <;> try (exfalso; omega))|with_reducible refine andG ?_|(first|(refine ⟨_, _, c1, ?_⟩)|(refine ⟨_, c1, ?_⟩)|(refine ⟨_, fun _ => c1, ?_⟩)|(refine ⟨_, _, c2, ?_⟩)|(refine ⟨_, c2, ?_⟩)|(refine ⟨_, fun _ => c2, ?_⟩))|simp (disch := try exact discB) only [push_cast, simprocAttr, a0, hb1, htl, hq])
    exact wd0 trivial rfl rfl rfl was9 rfl (hf _) ⟨rfl, .inl rfl⟩
   ·cases hm
end
end Go.Proofs
namespace Go.Proofs
open Go Go.V
set_option linter.unusedVariables false
set_option linter.unusedSimpArgs false
set_option maxHeartbeats 0
set_option maxRecDepth 100000
theorem vM0 (b : Nat) (o : List Bs) (s0 : Bs) (H : List Blk) (hb : H[b]? = some (.row 1 9 (strs o))) (hl : o.length ≤ 1000000) : ka0 Tryz.prog G0 41 [.own b o.length o.length none, .str s0] H (.bool (o.contains s0)) H := by
 have hl := xa0 o
 refine xbP9 1 ?_ ?_ (xJ0 1 o none s0 (.inr rfl) (by omega)) rfl
 ·rw [List.all_cons, xcE9 hb hl.symm hl.symm (za0 _ _)]; rfl
 ·rw [List.map_cons, zaW9 hb hl.symm hl.symm]; rfl
theorem wau9 (o : List Bs) (s : Bs) : strs o ++ [[.str s]] = strs (o ++ [s]) := by simp [strs]
theorem kq0 {B : List Blk} {n : Nat} {z : Nat} {t : TypeId} (o : List Bs) (h : B.all (Blk.below n) = true) : (B ++ [Blk.row z t (strs o)]).all (Blk.below n) = true := by
 rw [List.all_append, h]; simp [Blk.below]
theorem wak9 {l : List Tk} {most f i : Nat} {o : List Bs} {r : List Bs × Nat} (h : wK0 l most f o i = .ok r) : ∃ f' s, f = f' + 1 ∧ qh0 l i = .ok s ∧ o.contains s = false ∧ o.length ≠ most ∧ i + 1 < l.length ∧ (((l.getD (i + 1) tk0).t = [59] ∧ r = (o ++ [s], i + 2)) ∨ ((l.getD (i + 1) tk0).t = [44] ∧ wK0 l most f' (o ++ [s]) (i + 2) = .ok r)) := by
 cases f with
 | zero => cases h
 | succ f =>
  rw [wK0] at h
  cases h1 : qh0 l i with
  | no a b => rw [h1] at h; cases h
  | ok s =>
   rw [h1] at h
   simp only [PE.bind] at h
   split at h
   ·cases h
   split at h
   ·cases h
   rename_i q1 q2
   by_cases q3 : i + 1 < l.length
   ·rw [qn0, if_pos q3] at h
    simp only at h
    refine ⟨f, s, rfl, rfl, by simpa using q1, q2, q3, ?_⟩
    split at h
    ·injection h with h; exact .inl ⟨by assumption, h.symm⟩
    split at h
    ·exact .inr ⟨by assumption, h⟩
    ·cases h
   ·rw [qn0, if_neg q3] at h
    cases h
theorem qbt9 {l : List Tk} {most f i k : Nat} {e : Int} {o : List Bs} (h : wK0 l most (f + 1) o i = .no k e) : qh0 l i = .no k e ∨ ∃ s, qh0 l i = .ok s ∧ ((o.contains s = true ∧ k = i ∧ e = 8) ∨ (o.contains s = false ∧ ((o.length = most ∧ k = i ∧ e = 3) ∨ (o.length ≠ most ∧ ((i + 1 = l.length ∧ k = i ∧ e = 4) ∨ (i + 1 < l.length ∧ (l.getD (i + 1) tk0).t ≠ [59] ∧ (((l.getD (i + 1) tk0).t = [44] ∧ wK0 l most f (o ++ [s]) (i + 2) = .no k e) ∨ ((l.getD (i + 1) tk0).t ≠ [44] ∧ k = i + 1 ∧ e = 4)))))))) := by
 rw [wK0] at h
 cases h1 : qh0 l i with
 | no a b => rw [h1] at h; injection h with q1 q2; subst q1 q2; exact .inl rfl
 | ok s =>
  have hi := qx0 h1
  rw [h1] at h
  simp only [PE.bind] at h
  refine .inr ⟨s, rfl, ?_⟩
  split at h
  ·injection h with q1 q2; exact .inl ⟨by assumption, q1.symm, q2.symm⟩
  rename_i q
  refine .inr ⟨by simpa using q, ?_⟩
  split at h
  ·injection h with q1 q2; exact .inl ⟨by assumption, q1.symm, q2.symm⟩
  rename_i q
  refine .inr ⟨q, ?_⟩
  by_cases q : i + 1 < l.length
  ·rw [qn0, if_pos q] at h
   simp only at h
   refine .inr ⟨q, ?_⟩
   split at h
   ·cases h
   rename_i q
   refine ⟨q, ?_⟩
   split at h
   ·exact .inl ⟨by assumption, h⟩
   ·rename_i q
    injection h with q1 q2; exact .inr ⟨q, q1.symm, q2.symm⟩
  ·rw [qn0, if_neg q] at h
   injection h with q1 q2
   exact .inl ⟨by omega, by omega, q2.symm⟩
section
variable {ts : List Tk} {c : Option Nat} {P0 P1 P2 P3 P4 : Blk} {x0 x1 x2 x3 x4 x5 x6 : AV}
theorem vau9 (w : Bs) (most i i' : Nat) (o' : List Bs) (hm : kj0 ts w most i = .ok (o', i')) (hmo : most ≤ 1000) (hl : ts.length ≤ 1000000) (hrow : ∀ j : Int, ∀ b ∈ [P0, P1, P2, P3, P4, rdB ts c j x0 x1 x2 x3 x4 x5 x6], ∃ z t es, b = .row z t es) (hB : ∀ (n : Nat) (j : Int), [P0, P1, P2, P3, P4, rdB ts c j x0 x1 x2 x3 x4 x5 x6].all (Blk.below n) = true) :
  ka0 Tryz.prog G0 105 [.ptr 5 0 0 1, .str w, .int .i64 most] [P0, P1, P2, P3, P4, rdB ts c i x0 x1 x2 x3 x4 x5 x6] (.sl 1 (strs o') (some o'.length)) [P0, P1, P2, P3, P4, rdB ts c i' x0 x1 x2 x3 x4 x5 x6] := by
 unfold kj0 at hm
 cases h1 : zd0 ts w i with
 | no a b => rw [h1] at hm; cases hm
 | ok u =>
  rw [h1] at hm
  simp only [PE.bind] at hm
  have hit := qk0 h1
  have c1 := xn0 (H := [P0, P1, P2, P3, P4, rdB ts c i x0 x1 x2 x3 x4 x5 x6]) (b := 5) w i h1 rfl hl (hB 6)
  simp only [List.set_cons_succ, List.set_cons_zero] at c1
  have hsh := xcS9 (P := Tryz.prog) (G := G0) (f := 105) (args := [.ptr 5 0 0 1, .str w, .int .i64 most]) (H := [P0, P1, P2, P3, P4, rdB ts c i x0 x1 x2 x3 x4 x5 x6]) (H' := [P0, P1, P2, P3, P4, rdB ts c i' x0 x1 x2 x3 x4 x5 x6]) (sz := 1) (n := o'.length) (m := o'.length) (t := 9) (es := strs o') (c := some o'.length) (K := [.row 4 115 [tkA (ts.getD (i' - 1) tk0)]]) ?_ rfl (hrow _) (hB _ _) (xa0 _).symm (za0 _ _)
  ·rw [List.take_of_length_le (by rw [xa0]; exact Nat.le_refl _)] at hsh
   exact hsh
  show ka0 Tryz.prog G0 105 [.ptr 5 0 0 1, .str w, .int .i64 most] [P0, P1, P2, P3, P4, rdB ts c i x0 x1 x2 x3 x4 x5 x6] (.own 6 o'.length o'.length (some o'.length)) [P0, P1, P2, P3, P4, rdB ts c i' x0 x1 x2 x3 x4 x5 x6, .row 1 9 (strs o'), .row 4 115 [tkA (ts.getD (i' - 1) tk0)]]
  refine vl0 59 [.tmp 6] Tryz.func105 rfl rfl rfl (by simp) ?_
  intro s ⟨a0, a1, a2, hz⟩
  simp only [Nat.zero_add, Nat.reduceAdd] at a1 a2
  clear hz
  repeat' (first|refine nav ?_|(refine g0_ ?_; refine goD ?_)|with_reducible refine gG ?_ ?_|((with_reducible refine And.intro (fun h => ?_) (fun h => ?_)) <;> try (exfalso; omega))|with_reducible refine andG ?_|(first|(refine ⟨_, _, c1, ?_⟩)|(refine ⟨_, c1, ?_⟩)|(refine ⟨_, fun _ => c1, ?_⟩))|simp (disch := try exact discB) only [push_cast, simprocAttr, a0, a1, a2])
  refine go_loop rfl (fun mz s' H' => ∃ (f : Nat) (o : List Bs) (i1 : Nat), wK0 ts most f o i1 = .ok (o', i') ∧ ts.length < f + i1 ∧ i1 ≤ ts.length ∧ o.length ≤ most ∧ mz = f ∧ H' = [P0, P1, P2, P3, P4, rdB ts c i1 x0 x1 x2 x3 x4 x5 x6, .row 1 9 (strs o)] ∧ s' 0 = .ptr 5 0 0 1 ∧ s' 2 = .int .i64 most ∧ s' 7 = .own 6 o.length o.length none) (m := ts.length + 1) (by first|exact xb0|fail) (kB0 (t := 7) (sz := 1) (ty := 9) rfl) ⟨ts.length + 1, [], i + 1, hm, by omega, by omega, by simp, rfl, by simp [kaL9], ?_⟩ ?_
  ·simp (disch := try exact discB) only [push_cast, simprocAttr, a0, a1, a2]
  rintro mz s' H' ⟨f, o, i1, hg, hf, hi1, ho, rfl, rfl, b0, b2, b7⟩
  obtain ⟨f', s, rfl, hn, hc, hlen, hlt, hcase⟩ := wak9 hg
  have c2 := zad9 (H := [P0, P1, P2, P3, P4, rdB ts c i1 x0 x1 x2 x3 x4 x5 x6, .row 1 9 (strs o)]) (b := 5) s i1 hn rfl hl (fun j => kq0 o (hB 7 j))
  have c3 := vM0 6 o s [P0, P1, P2, P3, P4, rdB ts c ((i1 : Int) + 1) x0 x1 x2 x3 x4 x5 x6, .row 1 9 (strs o)] rfl (by omega)
  have c4 := qad9 (H := [P0, P1, P2, P3, P4, rdB ts c ((i1 : Int) + 1) x0 x1 x2 x3 x4 x5 x6, .row 1 9 (strs (o ++ [s]))]) (b := 5) (ts := ts) (c := c) (x0 := x0) (x1 := x1) (x2 := x2) (x3 := x3) (x4 := x4) (x5 := x5) (x6 := x6) (i1 + 1) (by rw [show ((i1 + 1 : Nat) : Int) = (i1 : Int) + 1 by omega]; rfl) hlt hl (kq0 (o ++ [s]) (hB 7 _))
  rw [show ((i1 + 1 : Nat) : Int) = (i1 : Int) + 1 by omega] at c4
  rw [hc] at c3
  simp only [List.set_cons_succ, List.set_cons_zero] at c2 c4
  have hi3 : ((i1 + 2 : Nat) : Int) = (i1 : Int) + 1 + 1 := by omega
  have hsn := wau9 o s
  have hq : ¬ (o.length : Int) = most := by omega
  have hlo := xa0 o
  have hlo2 : (strs (o ++ [s])).length = o.length + 1 := by rw [xa0]; simp
  have c5 := fun H hb => kbj9 6 (o.length + 1) (o.length + 1) 9 (strs (o ++ [s])) none H hb hlo2.symm (Nat.le_refl _)
  have hid1 : ∀ p, idsE p (strs o) = true := fun p => za0 _ _
  have hid2 : ∀ p, idsE p (strs (o ++ [s])) = true := fun p => za0 _ _
  have e0 : (strs o).take o.length = strs o := List.take_of_length_le (by omega)
  have e1 : (strs o).drop (o.length + 1) = [] := List.drop_eq_nil_of_le (by omega)
  have hbb := hB 7 ((i1 : Int) + 1 + 1)
  have htk : ∀ t : Tk, ([P0, P1, P2, P3, P4, rdB ts c ((i1 : Int) + 1 + 1) x0 x1 x2 x3 x4 x5 x6, .row 1 9 (strs (o ++ [s])), .row 4 115 [tkA t]].take 7).all (Blk.below 7) = true := fun t => kq0 (o ++ [s]) hbb
  have hlos : (o ++ [s]).length = o.length + 1 := by simp
  rcases hcase with ⟨ht, hr⟩|⟨ht, hr⟩
  ·injection hr with r1 r2
   subst r1 r2
   rw [show i1 + 2 - 1 = i1 + 1 by omega, hlos, hi3]
   generalize ts.getD (i1 + 1) tk0 = t at *
   obtain ⟨tk, tt, tl, tc⟩ := t
   simp only at ht
   subst ht
   simp only [tkA] at c4 ⊢
   generalize strs (o ++ [s]) = S1 at *
   generalize strs o = S0 at *
   repeat' (first|refine nav ?_|(refine g0_ ?_; refine goD ?_)|with_reducible refine gG ?_ ?_|((with_reducible refine And.intro (fun h => ?_) (fun h => ?_)) <;> try (exfalso; omega))|with_reducible refine andG ?_|(first|(refine ⟨_, _, c2, ?_⟩)|(refine ⟨_, c2, ?_⟩)|(refine ⟨_, fun _ => c2, ?_⟩)|(refine ⟨_, _, c3, ?_⟩)|(refine ⟨_, c3, ?_⟩)|(refine ⟨_, fun _ => c3, ?_⟩)|(refine ⟨_, _, c4, ?_⟩)|(refine ⟨_, c4, ?_⟩)|(refine ⟨_, fun _ => c4, ?_⟩)|(refine ⟨_, _, c5 _ rfl, ?_⟩)|(refine ⟨_, c5 _ rfl, ?_⟩)|(refine ⟨_, fun _ => c5 _ rfl, ?_⟩))|simp (disch := try exact discB) only [push_cast, simprocAttr, b0, b2, b7, hsn, hq, hlo, hlo2, e0, e1])
   all_goals rfl
  ·have hlk : f' < f' + 1 := by omega
   generalize ts.getD (i1 + 1) tk0 = t at *
   obtain ⟨tk, tt, tl, tc⟩ := t
   simp only at ht
   subst ht
   have h4459 : ¬ ([44] : Bs) = [59] := by decide
   have htk := htk ⟨tk, [44], tl, tc⟩
   simp only [tkA] at c4 htk
   generalize hS1 : strs (o ++ [s]) = S1 at *
   generalize strs o = S0 at *
   repeat' (first|refine nav ?_|(refine g0_ ?_; refine goD ?_)|with_reducible refine gG ?_ ?_|((with_reducible refine And.intro (fun h => ?_) (fun h => ?_)) <;> try (exfalso; omega))|with_reducible refine andG ?_|(first|(refine ⟨_, _, c2, ?_⟩)|(refine ⟨_, c2, ?_⟩)|(refine ⟨_, fun _ => c2, ?_⟩)|(refine ⟨_, _, c3, ?_⟩)|(refine ⟨_, c3, ?_⟩)|(refine ⟨_, fun _ => c3, ?_⟩)|(refine ⟨_, _, c4, ?_⟩)|(refine ⟨_, c4, ?_⟩)|(refine ⟨_, fun _ => c4, ?_⟩))|simp (disch := try exact discB) only [push_cast, simprocAttr, b0, b2, b7, hsn, hq, hlo, hlo2, e0, e1, h4459])
   refine wg0 f' 7 hlk (by first|exact xb0|fail) (by omega) (by simp) htk ⟨f', o ++ [s], i1 + 2, hr, by omega, by omega, by omega, rfl, by rw [hi3, hS1]; rfl, ?_⟩
   simp (disch := try exact discB) only [push_cast, simprocAttr, b0, b2, b7, hsn, hq, hlo, hlo2, e0, e1, h4459]
   simp [ko0, AV.ids]
end
end Go.Proofs
