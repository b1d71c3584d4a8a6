import Derived.Test.YtcoakjnmnommpaaGreatDoorA23
import Derived.Test.YtcoakjnmnommpaaGreatDoorAR3
import Derived.Test.YtcoakjnmnommpaaGreatDoorA12
import Derived.Test.YtcoakjnmnommpaaGreatDoorV59
namespace Go.Proofs
open Go Go.V
set_option linter.unusedVariables false
set_option linter.unusedSimpArgs false
set_option maxHeartbeats 0
theorem FiltF.len {n : Nat} {S : List Nat} (h : FiltF n S) : S.length ≤ n := by
 obtain ⟨p, rfl⟩ := h
 have := List.length_filter_le p (List.range n)
 rwa [List.length_range] at this
def wef9 (l : List (List Nat)) : List LC := l.map fun S => (intN S, none)
def zdQ9 (l : List (List Nat)) : List LC := l.map fun r => (intN r, none)
def anyF (F S : List Nat) (k : Nat) : Bool := (S.take k).any fun s => F.contains s
def detH (A : Nat) (x : Nf) (N : Nat) : AV := dA A 1 (zdQ9 (detR x A N)) none 1 (detA x A N) none
end Go.Proofs
namespace Go.Proofs
open Go Go.V
set_option linter.unusedVariables false
set_option linter.unusedSimpArgs false
set_option maxHeartbeats 0
def dlt (l : List LC) (s a : Nat) : Nat := ((zbL9 l).getD s []).getD a 0
theorem xbM9 {l : List LC} {s a : Nat} (hs : s < l.length) (ha : a < (l.getD s ([], none)).1.length) : dlt l s a = ((l.getD s ([], none)).1.getD a 0).toNat := wcb9 l s a hs ha
theorem qdj9 {A : Nat} {l : List LC} {m : Nat} (h : OkDv A (vm0 l) m) {s a : Nat} (hs : s < l.length) (ha : a < A) : dlt l s a < l.length := by
 rw [xbM9 hs (by rw [h.row hs]; exact ha)]
 have := h.at hs ha
 omega
theorem vaZ9 {A : Nat} {l : List LC} {m : Nat} (h : OkDv A (vm0 l) m) (e : Nat → Nat → Bool) (i : Nat) : ∀ s ∈ (stX (dlt l) e A 0 i).1, s < l.length := by
 have hn := h.n1
 rw [kg0] at hn
 exact waA9 (dlt l) e A (P := fun s => s < l.length) 0 hn (fun s hs a ha => qdj9 h hs ha) i
theorem zbn9 {A : Nat} {l : List LC} {m : Nat} (h : OkDv A (vm0 l) m) (e : Nat → Nat → Bool) (he : ∀ s, e s s = true) (i : Nat) : (stX (dlt l) e A 0 i).1.length ≤ l.length :=
 qW0 (eqv := e) id l.length _ (vaZ9 h e i) (fun s _ t _ q => by have : s = t := q; subst this; exact he s) (zab9 (dlt l) e A 0 i)
theorem xdQ9 (L : List Nat) (t : Nat) : setL (fun n => pS L n || inL [(t : Int)] n) = PS (L ++ [t]) := by
 have : (fun n => pS L n || inL [(t : Int)] n) = pS (L ++ [t]) := by
  funext n
  rw [Bool.eq_iff_iff]
  simp [pS, inL, Int.natCast_inj]
 rw [this]; rfl
theorem xdz9 : PS [] = [.int .u64 0, .int .u64 0, .int .u64 0, .int .u64 0] := by
 rw [PS, ← kac9]; rfl
theorem wcA9 (L : List Nat) (t : Nat) (ht : t < 256) : ((List.range 256).any fun n => pS L n && inL [(t : Int)] n) = L.contains t := by
 rw [Bool.eq_iff_iff, List.any_eq_true]
 constructor
 ·rintro ⟨n, _, h⟩
  simp [pS, inL, Int.natCast_inj] at h
  obtain ⟨h1, rfl⟩ := h
  simpa using h1
 ·intro h
  exact ⟨t, List.mem_range.2 ht, by simp [pS, inL] at h ⊢; exact h⟩
theorem vcA9 {L : List Nat} {t : Nat} (h : L.contains t = true) : addX eqX L t = L :=
 zam9 ⟨t, List.contains_iff_mem.1 h, xar9 t⟩
theorem kcA9 {L : List Nat} {t : Nat} (h : L.contains t = false) : addX eqX L t = L ++ [t] :=
 zJ0 (by
  rintro ⟨y, hy, e⟩
  have : y = t := by simpa [eqX] using e
  subst this
  rw [List.contains_iff_mem.2 hy] at h; cases h)
theorem qcB9 (b : Nat) (H : List Blk) (L : List Nat) (t : Nat) (ht : t < 256) (hb : H[b]? = some (.row 4 68 [PS L])) :
  qe0 Tryz.prog G0 67 [.ptr b 0 0 1, .sl 1 [[.int .i64 (t : Nat)]] (some 1)] H (.tup []) (H.set b (.row 4 68 [PS (L ++ [t])])) := by
 have := wdw9 b 1 [(t : Int)] (some 1) H (pS L) (.inr rfl) (by simp) (fun x hx => by simp at hx; omega) hb
 rw [xdQ9] at this
 exact this
theorem zdj9 (t : Nat) (ht : t < 256) : PC Tryz.prog G0 41 [.sl 1 [[.int .i64 (t : Nat)]] (some 1)] (.agg (setL (inL [(t : Int)]))) :=
 of32 1 [(t : Int)] (some 1) (.inr rfl) (by simp) (fun x hx => by simp at hx; omega)
theorem zcB9 (L : List Nat) (t : Nat) (ht : t < 256) : PC Tryz.prog G0 40 [.agg (PS L), .agg (setL (inL [(t : Int)]))] (.bool (L.contains t)) := by
 have := wby9 (pS L) (inL [(t : Int)])
 rw [wcA9 L t ht] at this
 exact this
set_option maxRecDepth 100000 in
theorem xcB9 (A : Nat) (l : List LC) (c : Option Nat) (ac : List Bool) (ca : Option Nat) (hok : OkDv A (vm0 l) ac.length) (N : Nat) (hN : (stX (dlt l) eqX A 0 N).1.length = N) :
  PC Tryz.prog G0 57 [dA A 1 l c 1 ac ca] (.sl 1 (ints (intN (stX (dlt l) eqX A 0 N).1)) none) := by
 have hidR : ∀ p, idsE p (rowL l) = true := fun p => vf0 _ _
 have hidA : ∀ p, idsE p (kd0 ac) = true := fun p => zi0 _ _
 have hn := hok.n
 have hn1 := hok.n1
 have hA := hok.a2
 rw [kg0] at hn hn1
 have hRl := zc0 l
 have e1 := zh0 l
 have hB := zbn9 hok eqX xar9
 have hlt0 := vaZ9 hok eqX
 have hrow := fun s h => hok.row (s := s) h
 have hdl := fun s a h ha => xbM9 (l := l) (s := s) (a := a) h ha
 have hdlt := fun s a h ha => qdj9 hok (s := s) (a := a) h ha
 have hp0 := qcB9 2 [.row 3 47 [[.int .i64 A, .sl 1 (rowL l) c, .sl 1 (kd0 ac) ca]], .row 1 3 [[.int .i64 0]], .row 4 68 [PS []]] [] 0 (by decide) rfl
 rw [xdz9] at hp0
 have hidP : ∀ L f, idsL f (PS L) = true := fun L f => xf0 _ _
 unfold dA
 generalize rowL l = RN at *
 generalize kd0 ac = BA at *
 generalize dlt l = δ at *
 refine vd0 1 45 [.tmp 2] Tryz.func57 rfl rfl rfl (by simp) ?_
 intro s ⟨a0, hz⟩
 clear hz
 repeat' (first|(refine g0_ ?_; with_reducible refine kbG9 [] (p := [0, 1]) rfl rfl ?_)|(refine a0_ ?_; refine waX9 rfl ?_)|(first|(with_reducible refine xax9 (p := [0, 0, 1, 1, 1, 1]) ?_)|refine nav ?_|(refine g0_ ?_; first|refine goD ?_))|(with_reducible refine gG ?_ ?_)|((with_reducible refine And.intro (fun h => ?_) (fun h => ?_)) <;> try (exfalso; omega))|(with_reducible refine andG ?_)|(first|(refine ⟨_, _, hp0, ?_⟩)|(refine ⟨_, hp0, ?_⟩)|(refine ⟨_, fun _ => hp0, ?_⟩))|simp (disch := (first|exact za0|fail)) only [push_cast, simprocAttr, a0])
 refine Halt.mk ?_
 repeat' (first|refine nav ?_|(refine g0_ ?_; refine goD ?_)|(with_reducible refine gG ?_ ?_)|((with_reducible refine And.intro (fun h => ?_) (fun h => ?_)) <;> try (exfalso; omega))|(with_reducible refine andG ?_)|fail|simp (disch := (first|exact za0|fail)) only [push_cast, simprocAttr, a0])
 refine go_loop rfl (fun mz s' H' => ∃ i : Nat, i ≤ (stX δ eqX A 0 i).1.length ∧ mz = 257 - i ∧ H' = [.row 3 47 [[.int .i64 A, .sl 1 RN c, .sl 1 BA ca]], .row 1 3 (ints (intN (stX δ eqX A 0 i).1)), .row 4 68 [PS (stX δ eqX A 0 i).1]] ∧ s' 1 = .ptr 0 0 0 1 ∧ s' 3 = .own 1 (stX δ eqX A 0 i).1.length (stX δ eqX A 0 i).1.length none ∧ s' 4 = .ptr 2 0 0 1 ∧ s' 5 = .int .i64 i) (m := 257) (by first|exact xb0|fail) (Weak.refl _ _) ⟨0, by simp [stX], by omega, by rfl, ?_⟩ ?_
 ·simp (disch := (first|exact za0|fail)) only [push_cast, simprocAttr, a0]
  simp [stX]
 ·rintro mz s' H' ⟨i, hi, rfl, rfl, b1, b3, b4, b5⟩
  have hi256 := hB i
  have hB1 := hB (i + 1)
  have hnx := zcA9 δ eqX A 0 0 i
  have hend : i = (stX δ eqX A 0 i).1.length → N = i := fun h => kbJ9 0 hN h.symm
  have hlt0 := hlt0 i
  generalize hnxt : stX δ eqX A 0 (i + 1) = NX at *
  generalize hT : stX δ eqX A 0 i = T at *
  obtain ⟨L, D⟩ := T
  simp only at *
  have hSl : (ints (intN L)).length = L.length := by rw [ka0, zb0]
  have hSi := zb0 L
  rcases Nat.lt_or_ge i L.length with hlt|hge
  ·have hnx := hnx hlt
   have hgL : (ints (intN L)).getD i [] = [.int .i64 (L.getD i 0 : Nat)] := by rw [kc0 _ _ (by rw [zb0]; exact hlt), qv0 _ _ hlt]
   have hs := hlt0 _ (qd0 (d := 0) hlt)
   generalize L.getD i 0 = s at *
   have e1 := e1 s hs
   have hrow := hrow s hs
   have hdl := fun a => hdl s a hs
   have hdlt := fun a => hdlt s a hs
   have hnn0 := fun a ha => (hok.at hs (a := a) ha).1
   generalize l.getD s ([], none) = r at *
   have hrl := ka0 r.1
   have e2 := kc0 r.1
   unfold lC at e1
   have hall := fun a ha => qar9 δ eqX A (P := fun t => t < l.length) L s hlt0 (fun b hb => hdlt b hb) a ha
   have hgrow : ∀ a, a ≤ A → (rowX δ eqX L s a).1.length ≤ 256 := fun a ha => by
    have hmono : ∀ d, (rowX δ eqX L s a).1.length ≤ (rowX δ eqX L s (a + d)).1.length := fun d => by
     induction d with
     | zero => exact Nat.le_refl _
     | succ d ih => exact Nat.le_trans ih (kbH9 eqX _ _)
    have := hmono (A - a)
    rw [Nat.add_sub_cancel' ha] at this
    rw [hnx] at hB1
    simp only at hB1
    omega
   repeat' (first|refine nav ?_|(refine g0_ ?_; refine goD ?_)|(with_reducible refine gG ?_ ?_)|((with_reducible refine And.intro (fun h => ?_) (fun h => ?_)) <;> try (exfalso; omega))|(with_reducible refine andG ?_)|fail|simp (disch := (first|exact za0|fail)) only [push_cast, simprocAttr, b1, b3, b4, b5, hSl, hSi, hgL, hRl, e1, hrl])
   refine go_loop rfl (fun mz s' H' => ∃ a : Nat, a ≤ A ∧ mz = A - a ∧ H' = [.row 3 47 [[.int .i64 A, .sl 1 RN c, .sl 1 BA ca]], .row 1 3 (ints (intN (rowX δ eqX L s a).1)), .row 4 68 [PS (rowX δ eqX L s a).1]] ∧ s' 1 = .ptr 0 0 0 1 ∧ s' 3 = .own 1 (rowX δ eqX L s a).1.length (rowX δ eqX L s a).1.length none ∧ s' 4 = .ptr 2 0 0 1 ∧ s' 5 = .int .i64 i ∧ s' 24 = .sl 1 (ints r.1) r.2 ∧ s' 25 = .int .i64 A ∧ s' 26 = .int .i64 a) (m := A) (by first|exact xb0|fail) (Weak.refl _ _) ⟨0, by omega, by omega, by rfl, ?_⟩ ?_
   ·rw [← hrow]
    simp (disch := (first|exact za0|fail)) only [push_cast, simprocAttr, b1, b3, b4, b5, hSl, hSi, hgL, hRl, e1, hrl]
    simp [rowX]
   ·rintro mz s' H' ⟨a, ha, rfl, rfl, b1, b3, b4, b5, b24, b25, b26⟩
    have hsucc : (rowX δ eqX L s (a + 1)).1 = addX eqX (rowX δ eqX L s a).1 (δ s a) := rfl
    have hpre := wP0 δ eqX L s a
    have hg1 := hgrow a ha
    have hg2 := fun h => hgrow (a + 1) h
    have hfull : a = A → NX.1 = (rowX δ eqX L s a).1 := fun h => by rw [hnx, h]
    generalize hW1 : (rowX δ eqX L s (a + 1)).1 = W1 at *
    generalize (rowX δ eqX L s a).1 = M at *
    have hMl : (ints (intN M)).length = M.length := by rw [ka0, zb0]
    have hMi := zb0 M
    have etM : (ints (intN M)).take M.length = ints (intN M) := List.take_of_length_le (by omega)
    have edM : (ints (intN M)).drop (M.length + 1) = [] := List.drop_eq_nil_of_le (by omega)
    rcases Nat.lt_or_ge a A with hla|hga
    ·have e3 := e2 a (by omega)
     have hda := hdl a (by omega)
     have hto := hdlt a hla
     have hnn : r.1.getD a 0 = (δ s a : Nat) := by
      have := hnn0 a hla
      omega
     rw [hnn] at e3
     generalize δ s a = to at *
     have hof := zdj9 to (by omega)
     have hme := zcB9 M to (by omega)
     cases hq : M.contains to with
     | true =>
      rw [hq] at hme
      rw [vcA9 hq] at hsucc
      repeat' (first|refine nav ?_|(refine g0_ ?_; refine goD ?_)|(with_reducible refine gG ?_ ?_)|((with_reducible refine And.intro (fun h => ?_) (fun h => ?_)) <;> try (exfalso; omega))|(with_reducible refine andG ?_)|(first|(refine ⟨_, _, qa0 (hof) (by (simp [idsL, idsE, AV.ids, hidR, hidA, hidP, vh0])) _, ?_⟩)|(refine ⟨_, qa0 (hof) (by (simp [idsL, idsE, AV.ids, hidR, hidA, hidP, vh0])) _, ?_⟩)|(refine ⟨_, fun _ => qa0 (hof) (by (simp [idsL, idsE, AV.ids, hidR, hidA, hidP, vh0])) _, ?_⟩)|(refine ⟨_, _, qa0 (hme) (by (simp [idsL, idsE, AV.ids, hidR, hidA, hidP, vh0])) _, ?_⟩)|(refine ⟨_, qa0 (hme) (by (simp [idsL, idsE, AV.ids, hidR, hidA, hidP, vh0])) _, ?_⟩)|(refine ⟨_, fun _ => qa0 (hme) (by (simp [idsL, idsE, AV.ids, hidR, hidA, hidP, vh0])) _, ?_⟩))|simp (disch := (first|exact za0|fail)) only [push_cast, simprocAttr, b1, b3, b4, b5, b24, b25, b26, e3, hrl, hrow])
      refine xa0 (A - (a + 1)) (by omega) (by first|exact xb0|fail) ⟨a + 1, by omega, rfl, by rw [hW1, hsucc], ?_⟩
      rw [hW1, hsucc]
      simp (disch := (first|exact za0|fail)) only [push_cast, simprocAttr, b1, b3, b4, b5, b24, b25, b26, e3, hrl, hrow]
     | false =>
      rw [hq] at hme
      rw [kcA9 hq] at hsucc
      have hpu := qcB9 2 [.row 3 47 [[.int .i64 A, .sl 1 RN c, .sl 1 BA ca]], .row 1 3 (ints (intN M)), .row 4 68 [PS M]] M to (by omega) rfl
      have hsn := xm0 (intN M) (to : Int)
      rw [← zn0] at hsn
      repeat' (first|refine nav ?_|(refine g0_ ?_; refine goD ?_)|(with_reducible refine gG ?_ ?_)|((with_reducible refine And.intro (fun h => ?_) (fun h => ?_)) <;> try (exfalso; omega))|(with_reducible refine andG ?_)|(first|(refine ⟨_, _, qa0 (hof) (by (simp [idsL, idsE, AV.ids, hidR, hidA, hidP, vh0])) _, ?_⟩)|(refine ⟨_, qa0 (hof) (by (simp [idsL, idsE, AV.ids, hidR, hidA, hidP, vh0])) _, ?_⟩)|(refine ⟨_, fun _ => qa0 (hof) (by (simp [idsL, idsE, AV.ids, hidR, hidA, hidP, vh0])) _, ?_⟩)|(refine ⟨_, _, qa0 (hme) (by (simp [idsL, idsE, AV.ids, hidR, hidA, hidP, vh0])) _, ?_⟩)|(refine ⟨_, qa0 (hme) (by (simp [idsL, idsE, AV.ids, hidR, hidA, hidP, vh0])) _, ?_⟩)|(refine ⟨_, fun _ => qa0 (hme) (by (simp [idsL, idsE, AV.ids, hidR, hidA, hidP, vh0])) _, ?_⟩)|(refine ⟨_, _, hpu, ?_⟩)|(refine ⟨_, hpu, ?_⟩)|(refine ⟨_, fun _ => hpu, ?_⟩))|simp (disch := (first|exact za0|fail)) only [push_cast, simprocAttr, b1, b3, b4, b5, b24, b25, b26, e3, hrl, hrow, hMl, hMi, etM, edM])
      refine xa0 (A - (a + 1)) (by omega) (by first|exact xb0|fail) ⟨a + 1, by omega, rfl, by rw [hW1, hsucc, ← hsn], ?_⟩
      rw [hW1, hsucc]
      simp (disch := (first|exact za0|fail)) only [push_cast, simprocAttr, b1, b3, b4, b5, b24, b25, b26, e3, hrl, hrow, hMl, hMi, etM, edM]
    ·obtain rfl : A = a := by omega
     have hfull := hfull rfl
     have hiM : i + 1 ≤ M.length := by
      obtain ⟨E, hE⟩ := hpre
      rw [hE]; simp; omega
     repeat' (first|refine nav ?_|(refine g0_ ?_; refine goD ?_)|(with_reducible refine gG ?_ ?_)|((with_reducible refine And.intro (fun h => ?_) (fun h => ?_)) <;> try (exfalso; omega))|(with_reducible refine andG ?_)|fail|simp (disch := (first|exact za0|fail)) only [push_cast, simprocAttr, b1, b3, b4, b5, b24, b25, b26, hrl, hrow])
     refine xa0 (257 - (i + 1)) (by omega) (by first|exact xb0|fail) ⟨i + 1, by rw [hnxt, hfull]; exact hiM, rfl, by rw [hnxt, hfull], ?_⟩
     rw [hnxt, hfull]
     simp (disch := (first|exact za0|fail)) only [push_cast, simprocAttr, b1, b3, b4, b5, b24, b25, b26, hrl, hrow]
  ·obtain rfl := hend (by omega)
   rw [hT]
   have etL : (ints (intN L)).take L.length = ints (intN L) := List.take_of_length_le (by omega)
   repeat' (first|refine nav ?_|(refine g0_ ?_; refine goD ?_)|(with_reducible refine gG ?_ ?_)|((with_reducible refine And.intro (fun h => ?_) (fun h => ?_)) <;> try (exfalso; omega))|(with_reducible refine andG ?_)|fail|simp (disch := (first|exact za0|fail)) only [push_cast, simprocAttr, b1, b3, b4, b5, hSl, hSi, etL])
end Go.Proofs
namespace Go.Proofs
open Go Go.V
set_option linter.unusedVariables false
set_option linter.unusedSimpArgs false
set_option maxHeartbeats 0
def intF (f : Nat → Int) (n : Nat) : List (List AV) := ints ((List.range n).map f)
theorem wbM9 (f : Nat → Int) (n : Nat) : (intF f n).length = n := by rw [intF, ka0]; simp
theorem kaZ9 (p : Nat → Bool) (f : Nat → Int) (n : Nat) : idsE p (intF f n) = true := va0 _ _
theorem qas9 (f : Nat → Int) (n k : Nat) (h : k < n) : (intF f n).getD k [] = [.int .i64 (f k)] := by rw [intF, kc0 _ _ (by simp; exact h)]; simp [h]
def updI (f : Nat → Int) (k : Nat) (v : Int) : Nat → Int := fun t => if t = k then v else f t
theorem kcc9 {f g : Nat → Int} {n : Nat} (h : ∀ s, s < n → f s = g s) : intF f n = intF g n := by
 rw [intF, intF]; congr 1; exact List.map_congr_left fun s hs => h s (List.mem_range.1 hs)
theorem vbM9 (f : Nat → Int) (n k : Nat) (v : Int) : (intF f n).set k [.int .i64 v] = intF (updI f k v) n := by
 rw [intF, waY9, intF]
 congr 1
 refine List.ext_getElem (by simp) fun j h1 h2 => ?_
 rw [List.getElem_set]
 simp only [List.getElem_map, List.getElem_range, updI]
 by_cases h : k = j
 ·rw [if_pos h, if_pos h.symm]
 ·rw [if_neg h, if_neg (fun q => h q.symm)]
theorem wcB9 (n : Nat) : List.replicate n [AV.int .i64 0] = intF (fun _ => 0) n := by
 rw [intF, vaY9]; congr 1
 refine List.ext_getElem (by simp) fun j h1 h2 => by simp
def bytM (w : List Nat) : List UInt8 := w.map UInt8.ofNat
def Small (w : List Nat) : Prop := ∀ x ∈ w, x < 256
theorem kbM9 {v w : List Nat} (hv : Small v) (hw : Small w) (h : bytM v = bytM w) : v = w := by
 have key : ∀ u : List Nat, Small u → (bytM u).map UInt8.toNat = u := fun u hu => by
  rw [bytM, List.map_map]
  refine (List.map_congr_left fun x hx => ?_).trans (List.map_id u)
  show (UInt8.ofNat x).toNat = x
  rw [UInt8.toNat_ofNat']
  exact Nat.mod_eq_of_lt (hu x hx)
 rw [← key v hv, h, key w hw]
def kB (w : List UInt8) : AV := .str w
theorem kQ0 (x y : List UInt8) : zx0 (kB x) (kB y) = (x == y) := by
 simp only [kB, zx0, qbR9]
def mapB (l : List (List Nat)) : List (AV × AV) := qH0 kB 0 (l.map bytM)
theorem kbz9 (l : List (List Nat)) : (mapB l).length = l.length := by rw [mapB, qN0, List.length_map]
theorem qcY9 (p : Nat → Bool) (l : List (List Nat)) : ((mapB l).all fun x => AV.ids p x.1 && AV.ids p x.2) = true := zaD9 p (fun _ => rfl) _ 0
theorem vef9 : eqTy Tryz.prog 8 9 = true := by kernel_rfl
theorem kef9 (x : List UInt8) : keyA Tryz.prog 8 9 (kB x) = true := by kernel_rfl
theorem eqA9 (x y : List UInt8) : eqA Tryz.prog 8 9 (kB x) (kB y) = (true, zx0 (kB x) (kB y)) := by
 rw [kQ0]
 have : eqA Tryz.prog 8 9 (kB x) (kB y) = (true, decide (x = y)) := by kernel_rfl
 rw [this, Prod.mk.injEq]
 refine ⟨rfl, ?_⟩
 rw [Bool.eq_iff_iff]; simp
theorem wdQ9 (l : List (List Nat)) (x : List UInt8) : qX0 Tryz.prog 9 (mapB l) (.str x) = true := xaD9 (kA := kB) x vef9 (kef9 _) (fun y => eqA9 _ _) _ 0
theorem qbN9 {l : List (List Nat)} (hl : ∀ w ∈ l, Small w) {w : List Nat} (hw : Small w) : bytM w ∈ l.map bytM ↔ findX eqL l w < l.length := by
 unfold findX
 rw [List.findIdx_lt_length, List.mem_map]
 constructor
 ·rintro ⟨T, hT, e⟩; exact ⟨T, hT, by rw [kbM9 (hl T hT) hw e]; exact zar9 w⟩
 ·rintro ⟨T, hT, e⟩; exact ⟨T, hT, by rw [zdh9 e]⟩
theorem vcB9 : ∀ {l : List (List Nat)} (hl : ∀ w ∈ l, Small w) {w : List Nat} (hw : Small w), (l.map bytM).idxOf (bytM w) = findX eqL l w
 | [], _, _, _ => rfl
 | T :: l, hl, w, hw => by
  have ih := vcB9 (l := l) (fun U hU => hl U (List.mem_cons_of_mem _ hU)) hw
  unfold findX at *
  rw [List.map_cons, List.idxOf_cons, List.findIdx_cons, ih]
  have : (bytM T == bytM w) = eqL T w := by
   rw [Bool.eq_iff_iff, beq_iff_eq]
   simp only [eqL, decide_eq_true_eq]
   exact ⟨kbM9 (hl T List.mem_cons_self) hw, fun h => by rw [h]⟩
  rw [this]
theorem zcY9 {l : List (List Nat)} (hl : ∀ w ∈ l, Small w) {w : List Nat} (hw : Small w) (h : findX eqL l w < l.length) (z : AV) : hasA (mapB l) (.str (bytM w)) = true ∧ zL0 z (mapB l) (.str (bytM w)) = .int .i64 (findX eqL l w : Nat) := by
 have hm := (qbN9 hl hw).2 h
 have h1 := zH0 kQ0 (bytM w) (l.map bytM) 0
 have h2 := xB0 kQ0 z (bytM w) (l.map bytM) 0
 rw [if_pos hm, vcB9 hl hw, Nat.zero_add] at h2
 exact ⟨h1.trans (decide_eq_true hm), h2⟩
theorem xcY9 {l : List (List Nat)} (hl : ∀ w ∈ l, Small w) {w : List Nat} (hw : Small w) (h : findX eqL l w = l.length) (z : AV) : hasA (mapB l) (.str (bytM w)) = false ∧ zL0 z (mapB l) (.str (bytM w)) = z ∧ updA (mapB l) (.str (bytM w)) (.int .i64 (l.length : Nat)) = mapB (l ++ [w]) := by
 have hm : ¬ bytM w ∈ l.map bytM := fun q => by have := (qbN9 hl hw).1 q; omega
 have h1 := zH0 kQ0 (bytM w) (l.map bytM) 0
 have h2 := xB0 kQ0 z (bytM w) (l.map bytM) 0
 have hu := zaj9 kQ0 (bytM w) (l.map bytM) 0 hm
 rw [List.length_map, Nat.zero_add] at hu
 rw [if_neg hm] at h2
 refine ⟨h1.trans (decide_eq_false hm), h2, ?_⟩
 rw [mapB, mapB, List.map_append]
 exact hu
section
variable {δ : Nat → Nat → Nat} {acc : Nat → Bool} {A : Nat} {order : List Nat}
theorem kcB9 (hl : order.length ≤ 256) (j s : Nat) (hs : s ∈ order) : clK δ acc A order j s < 256 := by
 cases j with
 | zero => rw [clK]; split <;> omega
 | succ k =>
  rw [qbJ9]
  have h1 := find_lt.2 (kab9 (e := wR0 δ acc A order k) (qai9 k) hs)
  have h2 := zby9 (δ := δ) (acc := acc) (A := A) (order := order) k
  rw [qaY9] at h2
  omega
theorem xaP9 (hl : order.length ≤ 256) (hcl : ∀ s ∈ order, ∀ a, a < A → δ s a ∈ order) (j s : Nat) (hs : s ∈ order) : Small (xu0 δ A (clK δ acc A order j) s) := by
 intro x hx
 unfold xu0 at hx
 rcases List.mem_cons.1 hx with rfl|hx
 ·exact kcB9 hl j s hs
 ·obtain ⟨a, ha, rfl⟩ := List.mem_map.1 hx
  exact kcB9 hl j _ (hcl s hs a (List.mem_range.1 ha))
theorem wB0 (cl : Nat → Nat) (u : Nat) (h : u < order.length) : namesC δ A order cl (u + 1) = addX eqL (namesC δ A order cl u) (xu0 δ A cl (order.getD u 0)) := by
 rw [namesC, ks0 _ _ 0 u h, List.foldl_append, ← namesC]; rfl
theorem zan9 (hl : order.length ≤ 256) (hcl : ∀ s ∈ order, ∀ a, a < A → δ s a ∈ order) (j : Nat) : ∀ u, u ≤ order.length → ∀ w ∈ namesC δ A order (clK δ acc A order j) u, Small w
 | 0, _, w, hw => by simp [namesC] at hw
 | u + 1, h, w, hw => by
  rw [wB0 _ u h] at hw
  exact qbI9 eqL (P := Small) _ _ (zan9 hl hcl j u (by omega)) (xaP9 hl hcl j _ (qd0 h)) w hw
theorem xaj9 (cl : Nat → Nat) (u : Nat) : ∀ d, u + d ≤ order.length → ∃ r, namesC δ A order cl (u + d) = namesC δ A order cl u ++ r
 | 0, _ => ⟨[], by simp⟩
 | d + 1, h => by
  obtain ⟨r, hr⟩ := xaj9 cl u d (by omega)
  obtain ⟨q, hq⟩ := kaa9 eqL (namesC δ A order cl (u + d)) (xu0 δ A cl (order.getD (u + d) 0))
  refine ⟨r ++ q, ?_⟩
  rw [← Nat.add_assoc, wB0 cl (u + d) (by omega), hq, hr, List.append_assoc]
theorem waP9 (cl : Nat → Nat) : ∀ u, u ≤ order.length → (namesC δ A order cl u).length ≤ u
 | 0, _ => by simp [namesC]
 | u + 1, h => by
  rw [wB0 cl u h]
  have := waP9 cl u (by omega)
  unfold addX
  split <;> simp <;> omega
theorem qcC9 {cl : Nat → Nat} {u : Nat} (h : u < order.length) (hf : findX eqL (namesC δ A order cl u) (xu0 δ A cl (order.getD u 0)) < (namesC δ A order cl u).length) : vbx9 δ A order cl (order.getD u 0) = findX eqL (namesC δ A order cl u) (xu0 δ A cl (order.getD u 0)) := by
 obtain ⟨r, hr⟩ := xaj9 (δ := δ) (A := A) (order := order) cl u (order.length - u) (by omega)
 rw [Nat.add_sub_cancel' (by omega)] at hr
 rw [vbx9, hr]
 exact vP0 r hf
theorem zcC9 {cl : Nat → Nat} {u : Nat} (h : u < order.length) (hf : findX eqL (namesC δ A order cl u) (xu0 δ A cl (order.getD u 0)) = (namesC δ A order cl u).length) : vbx9 δ A order cl (order.getD u 0) = (namesC δ A order cl u).length := by
 obtain ⟨r, hr⟩ := xaj9 (δ := δ) (A := A) (order := order) cl (u + 1) (order.length - (u + 1)) (by omega)
 rw [Nat.add_sub_cancel' (by omega), wB0 cl u h] at hr
 have h1 := xbI9 (eqv := eqL) (namesC δ A order cl u) (xu0 δ A cl (order.getD u 0)) (zar9 _)
 rw [vbx9, hr, vP0 r (by rw [h1.1]; exact h1.2), h1.1, hf]
def clF (δ : Nat → Nat → Nat) (acc : Nat → Bool) (A : Nat) (order : List Nat) (j : Nat) : Nat → Int := fun s => if j = 0 ∨ s ∈ order then (clK δ acc A order j s : Int) else 0
def nxF (δ : Nat → Nat → Nat) (acc : Nat → Bool) (A : Nat) (order : List Nat) (j u : Nat) : Nat → Int := fun s => if s ∈ order.take u then (clK δ acc A order (j + 1) s : Int) else 0
theorem wdz9 (j : Nat) : nxF δ acc A order j order.length = clF δ acc A order (j + 1) := by
 funext s
 rw [nxF, clF, List.take_length]
 simp
theorem wcY9 (j : Nat) : nxF δ acc A order j 0 = fun _ => 0 := by funext s; simp [nxF]
theorem vcY9 (j u : Nat) (h : u < order.length) : updI (nxF δ acc A order j u) (order.getD u 0) (vbx9 δ A order (clK δ acc A order j) (order.getD u 0) : Nat) = nxF δ acc A order j (u + 1) := by
 funext s
 rw [updI, nxF, nxF, zg0 order 0 u h]
 by_cases hs : s = order.getD u 0
 ·subst hs
  rw [if_pos rfl, if_pos (by simp)]; rfl
 ·rw [if_neg hs]
  simp only [List.mem_append, List.mem_singleton, hs, or_false]
def inF (acc : Nat → Bool) (u : Nat) : Nat → Int := fun s => if s < u ∧ acc s = true then 1 else 0
theorem kcY9 : inF acc 0 = fun _ => 0 := by funext s; simp [inF]
theorem qcZ9 (u : Nat) : inF acc (u + 1) = if acc u = true then updI (inF acc u) u 1 else inF acc u := by
 funext s
 by_cases h : acc u = true
 ·rw [if_pos h, updI, inF, inF]
  by_cases hs : s = u
  ·subst hs; simp [h]
  ·rw [if_neg hs]
   have : s < u + 1 ↔ s < u := by omega
   simp only [this]
 ·rw [if_neg h, inF, inF]
  by_cases hs : s = u
  ·subst hs; simp [h]
  ·have : s < u + 1 ↔ s < u := by omega
   simp only [this]
theorem vdz9 (n : Nat) : intF (inF acc n) n = intF (clF δ acc A order 0) n := kcc9 fun s hs => by
 simp only [inF, clF, clK, true_or, if_true]
 by_cases h : acc s = true
 ·simp [hs, h]
 ·simp [h]
def cntB (δ : Nat → Nat → Nat) (acc : Nat → Bool) (A : Nat) (order : List Nat) : Nat → Nat
 | 0 => 0
 | j + 1 => cntK δ acc A order j
def xad9 (δ : Nat → Nat → Nat) (cl : Nat → Nat) (s k : Nat) : List Nat := cl s :: (List.range k).map fun a => cl (δ s a)
theorem qcd9 (cl : Nat → Nat) (s k : Nat) : xad9 δ cl s (k + 1) = xad9 δ cl s k ++ [cl (δ s k)] := by simp [xad9, List.range_succ]
theorem xbn9 (cl : Nat → Nat) (s k : Nat) : (xad9 δ cl s k).length = k + 1 := by simp [xad9]
theorem xcC9 (cl : Nat → Nat) (s : Nat) : xad9 δ cl s A = xu0 δ A cl s := rfl
end
theorem zbN9 (w : List Nat) (x : Nat) (hx : x < 256) : qs0 (bytM w) ++ [[.int .u8 (x : Nat)]] = qs0 (bytM (w ++ [x])) := by
 have e : ((UInt8.ofNat x).toNat : Nat) = x := by rw [UInt8.toNat_ofNat']; exact Nat.mod_eq_of_lt hx
 have := vbw9 (bytM w) (UInt8.ofNat x)
 rw [e] at this
 rw [this]; simp [bytM]
theorem wcC9 (x : Nat) (hx : x < 256) : IntKind.u8.wrap (x : Int) = x := by
 have : ∀ x : Fin 256, IntKind.u8.wrap (((x.1 : Nat)) : Int) = ((x.1 : Nat) : Int) := by decide +kernel
 exact this ⟨x, hx⟩
end Go.Proofs
