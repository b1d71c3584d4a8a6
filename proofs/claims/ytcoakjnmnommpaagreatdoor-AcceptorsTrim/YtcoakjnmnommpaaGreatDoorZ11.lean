import Derived.Test.YtcoakjnmnommpaaGreatDoorZ10
import Derived.Test.YtcoakjnmnommpaaGreatDoorV59
namespace Go.Proofs
open Go Go.V Go.RowKit
set_option linter.unusedVariables false
set_option linter.unusedSimpArgs false
set_option maxHeartbeats 0
set_option maxRecDepth 100000
theorem vas9 (S : List Nat) (t : Nat) : (intN S).contains (t : Int) = S.contains t := by
 rw [← qad9 (fun x hx => by obtain ⟨a, _, rfl⟩ := List.mem_map.1 hx; omega), zN0]
theorem qdC9 {H : List Blk} {b : Nat} (S : List Nat) (t : Nat) (hS : S.length ≤ 1000000) (hb : H[b]? = some (.row 1 3 (ints (intN S)))) : qe0 Tryz.prog G0 43 [.own b S.length S.length none, .int .i64 (t : Nat)] H (.int .i64 (if (intN S).contains (t : Int) = true then 1 else 0)) H := by
 have hl : (ints (intN S)).length = S.length := by rw [ka0, zb0]
 have o1 := qcr9 (c := none) hb hl.symm hl.symm (va0 _ _)
 have q1 := zaz9 (c := none) hb hl.symm hl.symm
 refine wcn9 1 ?_ ?_ (vby9 1 (intN S) none t (.inr rfl) (by rw [zb0]; omega)) rfl
 ·simp only [List.all_cons, List.all_nil, Bool.and_true]
  rw [o1]; rfl
 ·simp only [List.map_cons, List.map_nil]
  rw [q1]; rfl
def sucL (l : List RC) (s a : Nat) : List Nat := natL (lstC l s a).1
def capR (S : List Nat) : Option Nat := if S = [] then some 0 else none
theorem qaR9 (A : Nat) (zr : Nat) (l : List RC) (c : Option Nat) (zs : Nat) (st : List Int) (cs : Option Nat) (za : Nat) (ac : List Int) (ca : Option Nat) (hzl : l = [] ∨ zr = 1) (hok : OkNv A (rowsV l) st ac) (zf : Nat) (S0 : List Nat) (cf : Option Nat) (hzf : S0 = [] ∨ zf = 1) (hnd : S0.Nodup) (hS0 : ∀ t ∈ S0, t < l.length) :
  PC Tryz.prog G0 44 [nA A zr l c zs st cs za ac ca, .sl zf (ints (intN S0)) cf] (.sl 1 (ints (intN (outQ (sucL l) A S0 l.length))) (capR S0)) := by
 have hn := hok.n
 rw [qb0] at hn
 have hA1 := hok.a1
 have hA2 := hok.a2
 have hRl := we0 l
 have hg := zm0 l
 have hrow := fun s hs => hok.row (l := l) (s := s) hs
 have hlst := fun s a hs ha => hok.lst (l := l) (s := s) (a := a) hs ha
 have hsuc : ∀ s a, s < l.length → a < A → intN (sucL l s a) = (lstC l s a).1 ∧ (∀ t ∈ sucL l s a, t < l.length) ∧ (sucL l s a).length ≤ 256 := fun s a hs ha => by
  have h := hlst s a hs ha
  have h1 := vc0 h
  refine ⟨ww0 fun x hx => (h1 x hx).1, fun t ht => ?_, ?_⟩
  ·obtain ⟨x, hx, rfl⟩ := List.mem_map.1 ht
   have := h1 x hx; omega
  ·have := xn0 h
   rw [sucL, natL, List.length_map]; omega
 have hgrow := xN0 (f := sucL l) (A := A) (n := l.length) (S := S0) (P := fun _ => True) ⟨hnd, hS0, fun _ _ => trivial⟩ (fun s hs _ a ha t ht => ⟨(hsuc s a hs ha).2.1 t ht, trivial⟩)
 have hlen := was9 (f := sucL l) (A := A) (n := l.length) (S := S0) (P := fun _ => True) ⟨hnd, hS0, fun _ _ => trivial⟩ (fun s hs _ a ha t ht => ⟨(hsuc s a hs ha).2.1 t ht, trivial⟩)
 have hend := fun k => wbO9 (f := sucL l) (A := A) (S := S0) (k := k) (m := l.length)
 have hpre := fun s o a => zba9 (sucL l s) o a
 have hidX : ∀ p, idsE p (xc0 l) = true := fun p => wc0 _ _
 have hidS : ∀ p, idsE p (ints st) = true := fun p => va0 _ _
 have hidF : ∀ p, idsE p (ints ac) = true := fun p => va0 _ _
 have hid0 : ∀ p, idsE p (ints (intN S0)) = true := fun p => va0 _ _
 have hl0 : (ints (intN S0)).length = S0.length := by rw [ka0, zb0]
 have h0len : S0.length ≤ l.length := hlen 0
 unfold nA
 generalize hRN : xc0 l = RN at *
 generalize ints st = SS at *
 generalize ints ac = SF at *
 by_cases hS : S0 = []
 ·subst hS
  have e0 : outQ (sucL l) A [] l.length = [] := by
   have := wbO9 (f := sucL l) (A := A) (S := []) (k := 0) (m := l.length) (by simp [outQ]) (by omega)
   rw [this]; rfl
  rw [e0, capR, if_pos rfl]
  have hin : ints (intN []) = [] := rfl
  rw [hin]
  refine vd0 1 75 [.tmp 4] Tryz.func44 rfl rfl rfl (by simp) ?_
  intro s ⟨a0, a1, hz⟩
  simp only [Nat.zero_add, Nat.reduceAdd] at a1
  clear hz
  repeat' (first|refine nav ?_|(refine g0_ ?_; refine goD ?_)|(with_reducible refine gG ?_ ?_)|((with_reducible refine And.intro (fun h => ?_) (fun h => ?_)) <;> try (exfalso; omega))|(with_reducible refine andG ?_)|fail|simp (disch := (first|exact za0|fail)) only [push_cast, simprocAttr, a0, a1, hRl])
  refine go_loop rfl (fun mz s' H' => mz = 0 ∧ H' = [.row 4 29 [[.int .i64 A, .sl zr RN c, .sl zs SS cs, .sl za SF ca]]] ∧ s' 2 = .ptr 0 0 0 1 ∧ s' 5 = .sl 0 [] (some 0) ∧ s' 6 = .int .i64 0) (m := 0) (by first|exact xb0|fail) (Weak.refl _ _) ⟨rfl, rfl, ?_⟩ ?_
  ·simp (disch := (first|exact za0|fail)) only [push_cast, simprocAttr, a0, a1, hRl]
  ·rintro mz s' H' ⟨rfl, rfl, b2, b5, b6⟩
   repeat' (first|refine nav ?_|(refine g0_ ?_; refine goD ?_)|(with_reducible refine gG ?_ ?_)|((with_reducible refine And.intro (fun h => ?_) (fun h => ?_)) <;> try (exfalso; omega))|(with_reducible refine andG ?_)|fail|simp (disch := (first|exact za0|fail)) only [push_cast, simprocAttr, b2, b5, b6])
 ·rw [capR, if_neg hS]
  obtain ⟨t0, Sr, rfl⟩ := List.exists_cons_of_ne_nil hS
  have hcons : ints (intN (t0 :: Sr)) = [.int .i64 (t0 : Nat)] :: ints (intN Sr) := rfl
  obtain rfl := hzf.resolve_left hS
  have hl1 : (ints (intN Sr)).length = Sr.length := by rw [ka0, zb0]
  have hid1 : ∀ p, idsE p (ints (intN Sr)) = true := fun p => va0 _ _
  refine vd0 1 75 [.tmp 4] Tryz.func44 rfl rfl rfl (by simp) ?_
  intro s ⟨a0, a1, hz⟩
  simp only [Nat.zero_add, Nat.reduceAdd] at a1
  clear hz
  repeat' (first|(refine g0_ ?_; with_reducible refine kbG9 [] (p := [0, 1]) rfl rfl ?_)|(refine a0_ ?_; refine waX9 rfl ?_)|refine nav ?_|(refine g0_ ?_; refine goD ?_)|(with_reducible refine gG ?_ ?_)|((with_reducible refine And.intro (fun h => ?_) (fun h => ?_)) <;> try (exfalso; omega))|(with_reducible refine andG ?_)|fail|simp (disch := (first|exact za0|fail)) only [push_cast, simprocAttr, a0, a1, hRl, hcons, hl1])
  have hcons2 : [AV.int .i64 (t0 : Nat)] :: ints (intN Sr) = ints (intN (outQ (sucL l) A (t0 :: Sr) 0)) := rfl
  have hlen2 : Sr.length + 1 = (outQ (sucL l) A (t0 :: Sr) 0).length := rfl
  rw [hcons2, hlen2]
  generalize hO : outQ (sucL l) A (t0 :: Sr) = O at *
  have hOs : ∀ k, O (k + 1) = if k < (O k).length then rowQ (sucL l ((O k).getD k 0)) (O k) A else O k := fun k => by rw [← hO]; rfl
  have hO0 : (O 0).length ≤ 256 := by have := hlen 0; omega
  refine go_loop rfl (fun mz s' H' => ∃ i : Nat, i ≤ l.length ∧ mz = l.length - i ∧ H' = [.row 4 29 [[.int .i64 A, .sl zr RN c, .sl zs SS cs, .sl za SF ca]], .row 1 3 (ints (intN (O i)))] ∧ s' 2 = .ptr 0 0 0 1 ∧ s' 5 = .own 1 (O i).length (O i).length none ∧ s' 6 = .int .i64 i) (m := l.length) (by first|exact xb0|fail) (Weak.refl _ _) ⟨0, by omega, by omega, rfl, ?_⟩ ?_
  ·simp (disch := (first|exact za0|fail)) only [push_cast, simprocAttr, a0, a1, hRl, hcons, hl1]
  ·rintro mz s' H' ⟨i, hi, rfl, rfl, b2, b5, b6⟩
   have hOl := hlen i
   have hOn : (ints (intN (O i))).length = (O i).length := by rw [ka0, zb0]
   rcases Nat.lt_or_ge i (O i).length with hlt|hge
   ·have hsl : (O i).getD i 0 < l.length := (hgrow i).lt _ (qd0 (d := 0) hlt)
    obtain rfl := hzl.resolve_left (by intro h; rw [h] at hsl; simp at hsl)
    have e1 := hg _ hsl
    have hrs := hrow _ hsl
    unfold rC at e1
    have hnext := hOs i
    rw [if_pos hlt] at hnext
    have hpre0 := hpre ((O i).getD i 0) (O i)
    have hgr0 : ∀ a, a ≤ A → kao9 l.length (fun _ => True) (rowQ (sucL l ((O i).getD i 0)) (O i) a) := fun a ha => kaE9 (hgrow i) a fun b hb t ht => ⟨(hsuc _ b hsl (by omega)).2.1 t ht, trivial⟩
    have hat : ∀ r, ((O i) ++ r).getD i 0 = (O i).getD i 0 := fun r => by
     rw [List.getD_eq_getElem?_getD, List.getElem?_append_left hlt, ← List.getD_eq_getElem?_getD]
    have hx := fun a ha => hsuc _ a hsl ha
    have hlc : ∀ a, (l.getD ((O i).getD i 0) ([], none)).1.getD a ([], none) = lstC l ((O i).getD i 0) a := fun a => rfl
    have hgr := zh0 (l.getD ((O i).getD i 0) ([], none)).1
    have hrl := zc0 (l.getD ((O i).getD i 0) ([], none)).1
    generalize hs : (O i).getD i 0 = s at *
    generalize (l.getD s ([], none)).2 = cr at *
    generalize (l.getD s ([], none)).1 = r at *
    have hrow0 : O i = rowQ (sucL l s) (O i) 0 := rfl
    repeat' (first|refine nav ?_|(refine g0_ ?_; refine goD ?_)|(with_reducible refine gG ?_ ?_)|((with_reducible refine And.intro (fun h => ?_) (fun h => ?_)) <;> try (exfalso; omega))|(with_reducible refine andG ?_)|fail|simp (disch := (first|exact za0|fail)) only [push_cast, simprocAttr, b2, b5, b6, hOn])
    refine go_loop rfl (fun mz s' H' => ∃ a : Nat, a ≤ A ∧ mz = A - a ∧ H' = [.row 4 29 [[.int .i64 A, .sl 1 RN c, .sl zs SS cs, .sl za SF ca]], .row 1 3 (ints (intN (rowQ (sucL l s) (O i) a)))] ∧ s' 2 = .ptr 0 0 0 1 ∧ s' 5 = .own 1 (rowQ (sucL l s) (O i) a).length (rowQ (sucL l s) (O i) a).length none ∧ s' 6 = .int .i64 i ∧ s' 7 = .int .i64 a) (m := A) (by first|exact xb0|fail) (Weak.refl _ _) ⟨0, by omega, by omega, rfl, ?_⟩ ?_
    ·rw [← hrow0]
     simp (disch := (first|exact za0|fail)) only [push_cast, simprocAttr, b2, b5, b6, hOn]
    ·clear b2 b5 b6
     rintro mz s' H' ⟨a, ha, rfl, rfl, b2, b5, b6, b7⟩
     rcases Nat.lt_or_ge a A with hla|hga
     ·obtain ⟨hx1, hx2, hx3⟩ := hx a hla
      obtain ⟨r1, hr1⟩ := hpre0 a
      have hga0 := hgr0 a (by omega)
      have hsuccA := qae9 (sucL l s) (O i) a
      have e2 := hgr a (by omega)
      rw [hlc a] at e2
      unfold lC at e2
      rw [← hx1] at e2
      generalize (lstC l s a).2 = cx at *
      have hxl : (ints (intN (sucL l s a))).length = (sucL l s a).length := by rw [ka0, zb0]
      have hgx := kc0 (intN (sucL l s a))
      have hgn := qv0 (sucL l s a)
      have htk := fun o k hk => xce9 o (sucL l s a) k hk
      generalize hq : sucL l s a = Q at *
      have hpk := fun k => wbo9 (rowQ (sucL l s) (O i) a) (Q.take k)
      have hgk : ∀ k, kao9 l.length (fun _ => True) (zK0 (rowQ (sucL l s) (O i) a) (Q.take k)) := fun k => qak9 hga0 fun t ht => ⟨hx2 t (List.mem_of_mem_take ht), trivial⟩
      have hlk := fun k => vA0 l.length _ (hgk k).nd (hgk k).lt
      have hatk : ∀ k, i < (zK0 (rowQ (sucL l s) (O i) a) (Q.take k)).length ∧ (zK0 (rowQ (sucL l s) (O i) a) (Q.take k)).getD i 0 = s := fun k => by
       obtain ⟨r2, hr2⟩ := hpk k
       rw [hr2, hr1, List.append_assoc]
       exact ⟨by rw [List.length_append]; omega, hat _⟩
      have h0k : zK0 (rowQ (sucL l s) (O i) a) (Q.take 0) = rowQ (sucL l s) (O i) a := rfl
      rw [← h0k] at b5 ⊢
      generalize hT : (fun k => zK0 (rowQ (sucL l s) (O i) a) (Q.take k)) = T at *
      have hTe : ∀ k, zK0 (rowQ (sucL l s) (O i) a) (Q.take k) = T k := fun k => by rw [← hT]
      have htk := htk (rowQ (sucL l s) (O i) a)
      have hTall : zK0 (rowQ (sucL l s) (O i) a) Q = T Q.length := by rw [← hT]; simp only [List.take_length]
      rw [hTall] at hsuccA
      simp only [hTe] at *
      repeat' (first|refine nav ?_|(refine g0_ ?_; refine goD ?_)|(with_reducible refine gG ?_ ?_)|((with_reducible refine And.intro (fun h => ?_) (fun h => ?_)) <;> try (exfalso; omega))|(with_reducible refine andG ?_)|fail|simp (disch := (first|exact za0|fail)) only [push_cast, simprocAttr, b2, b5, b6, b7])
      refine go_loop rfl (fun mz s' H' => ∃ k : Nat, k ≤ Q.length ∧ mz = Q.length - k ∧ H' = [.row 4 29 [[.int .i64 A, .sl 1 RN c, .sl zs SS cs, .sl za SF ca]], .row 1 3 (ints (intN (T k)))] ∧ s' 2 = .ptr 0 0 0 1 ∧ s' 5 = .own 1 (T k).length (T k).length none ∧ s' 6 = .int .i64 i ∧ s' 7 = .int .i64 a ∧ s' 8 = .int .i64 k) (m := Q.length) (by first|exact xb0|fail) (Weak.refl _ _) ⟨0, by omega, by omega, rfl, ?_⟩ ?_
      ·simp (disch := (first|exact za0|fail)) only [push_cast, simprocAttr, b2, b5, b6, b7]
      ·clear b2 b5 b6 b7
       rintro mz s' H' ⟨k, hk, rfl, rfl, b2, b5, b6, b7, b8⟩
       obtain ⟨hik, hsk⟩ := hatk k
       have hTl := hlk k
       have hTn : (ints (intN (T k))).length = (T k).length := by rw [ka0, zb0]
       have eT := kc0 (intN (T k)) i (by rw [zb0]; exact hik)
       rw [qv0 _ _ hik, hsk] at eT
       have hidT : ∀ p, idsE p (ints (intN (T k))) = true := fun p => va0 _ _
       have etT : (ints (intN (T k))).take (T k).length = ints (intN (T k)) := List.take_of_length_le (by omega)
       have edT : (ints (intN (T k))).drop ((T k).length + 1) = [] := List.drop_eq_nil_of_le (by omega)
       rcases Nat.lt_or_ge k Q.length with hlk2|hgk2
       ·have htk := htk k hlk2
        have e3 := hgx k (by rw [zb0]; exact hlk2)
        rw [hgn k hlk2] at e3
        generalize Q.getD k 0 = t at *
        have hh := qdC9 (H := [.row 4 29 [[.int .i64 A, .sl 1 RN c, .sl zs SS cs, .sl za SF ca]], .row 1 3 (ints (intN (T k)))]) (b := 1) (T k) t (by omega) rfl
        have hTl1 : i < (T k).length := hik
        cases hc : (T k).contains t with
        | true =>
         have hcI : (intN (T k)).contains (t : Int) = true := by rw [vas9]; exact hc
         rw [hcI, if_pos rfl] at hh
         have hnx : T (k + 1) = T k := by rw [htk, addQ, if_pos hc]
         repeat' (first|refine nav ?_|(refine g0_ ?_; refine goD ?_)|(with_reducible refine gG ?_ ?_)|((with_reducible refine And.intro (fun h => ?_) (fun h => ?_)) <;> try (exfalso; omega))|(with_reducible refine andG ?_)|(first|(refine ⟨_, _, hh, ?_⟩)|(refine ⟨_, hh, ?_⟩)|(refine ⟨_, fun _ => hh, ?_⟩))|simp (disch := (first|exact za0|fail)) only [push_cast, simprocAttr, b2, b5, b6, b7, b8, eT, hTn, hik, hRl, e1, hrl, hrs, e2, hxl, e3])
         refine xa0 (Q.length - (k + 1)) (by omega) (by first|exact xb0|fail) ⟨k + 1, by omega, rfl, by rw [hnx], ?_⟩
         rw [hnx]
         simp (disch := (first|exact za0|fail)) only [push_cast, simprocAttr, b2, b5, b6, b7, b8, eT, hTn, hik, hRl, e1, hrl, hrs, e2, hxl, e3]
        | false =>
         have hcI : (intN (T k)).contains (t : Int) = false := by rw [vas9]; exact hc
         rw [hcI, if_neg (by decide)] at hh
         have hnx : T (k + 1) = T k ++ [t] := by rw [htk, addQ, if_neg (by rw [hc]; decide)]
         have hsn := xm0 (intN (T k)) (t : Int)
         rw [← zn0, ← hnx] at hsn
         have hTl2 : (T (k + 1)).length = (T k).length + 1 := by rw [hnx]; simp
         repeat' (first|refine nav ?_|(refine g0_ ?_; refine goD ?_)|(with_reducible refine gG ?_ ?_)|((with_reducible refine And.intro (fun h => ?_) (fun h => ?_)) <;> try (exfalso; omega))|(with_reducible refine andG ?_)|(first|(refine ⟨_, _, hh, ?_⟩)|(refine ⟨_, hh, ?_⟩)|(refine ⟨_, fun _ => hh, ?_⟩))|simp (disch := (first|exact za0|fail)) only [push_cast, simprocAttr, b2, b5, b6, b7, b8, eT, hTn, hik, hRl, e1, hrl, hrs, e2, hxl, e3, etT, edT])
         refine xa0 (Q.length - (k + 1)) (by omega) (by first|exact xb0|fail) ⟨k + 1, by omega, rfl, by rw [← hsn], ?_⟩
         rw [hTl2]
         simp (disch := (first|exact za0|fail)) only [push_cast, simprocAttr, b2, b5, b6, b7, b8, eT, hTn, hik, hRl, e1, hrl, hrs, e2, hxl, e3, etT, edT]
       ·obtain rfl : Q.length = k := by omega
        rw [← hsuccA] at *
        repeat' (first|refine nav ?_|(refine g0_ ?_; refine goD ?_)|(with_reducible refine gG ?_ ?_)|((with_reducible refine And.intro (fun h => ?_) (fun h => ?_)) <;> try (exfalso; omega))|(with_reducible refine andG ?_)|fail|simp (disch := (first|exact za0|fail)) only [push_cast, simprocAttr, b2, b5, b6, b7, b8, eT, hTn, hik, hRl, e1, hrl, hrs, e2, hxl, etT])
        refine xa0 (A - (a + 1)) (by omega) (by first|exact xb0|fail) ⟨a + 1, by omega, rfl, rfl, ?_⟩
        simp (disch := (first|exact za0|fail)) only [push_cast, simprocAttr, b2, b5, b6, b7, b8, eT, hTn, hik, hRl, e1, hrl, hrs, e2, hxl, etT]
     ·obtain rfl : A = a := by omega
      rw [← hnext] at *
      repeat' (first|refine nav ?_|(refine g0_ ?_; refine goD ?_)|(with_reducible refine gG ?_ ?_)|((with_reducible refine And.intro (fun h => ?_) (fun h => ?_)) <;> try (exfalso; omega))|(with_reducible refine andG ?_)|fail|simp (disch := (first|exact za0|fail)) only [push_cast, simprocAttr, b2, b5, b6, b7])
      refine xa0 (l.length - (i + 1)) (by omega) (by first|exact xb0|fail) ⟨i + 1, by omega, rfl, rfl, ?_⟩
      simp (disch := (first|exact za0|fail)) only [push_cast, simprocAttr, b2, b5, b6, b7]
   ·have he := hend i hge hi
    rw [he]
    have etO : (ints (intN (O i))).take (O i).length = ints (intN (O i)) := List.take_of_length_le (by omega)
    have hidO : ∀ p, idsE p (ints (intN (O i))) = true := fun p => va0 _ _
    have hge' : ¬ i < (O i).length := by omega
    repeat' (first|refine nav ?_|(refine g0_ ?_; refine goD ?_)|(with_reducible refine gG ?_ ?_)|((with_reducible refine And.intro (fun h => ?_) (fun h => ?_)) <;> try (exfalso; omega))|(with_reducible refine andG ?_)|fail|simp (disch := (first|exact za0|fail)) only [push_cast, simprocAttr, b2, b5, b6, hOn, hge', etO])
end Go.Proofs
