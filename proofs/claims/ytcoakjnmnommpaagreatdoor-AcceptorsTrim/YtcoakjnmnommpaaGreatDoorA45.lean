import Derived.Test.YtcoakjnmnommpaaGreatDoorA26
import Derived.Test.YtcoakjnmnommpaaGreatDoorA19
import Derived.Test.YtcoakjnmnommpaaGreatDoorZ5
import Derived.Test.YtcoakjnmnommpaaGreatDoorVS
import Derived.Test.YtcoakjnmnommpaaGreatDoorV59
import Derived.Test.YtcoakjnmnommpaaGreatDoorA43
namespace Go.Proofs
open Go Go.V Go.RowKit
set_option linter.unusedVariables false
set_option linter.unusedSimpArgs false
set_option maxHeartbeats 0
set_option maxRecDepth 100000
def smL (l K : List Nat) (k : Nat) : List Nat := ((l.take k).filter fun t => K.contains t).map fun t => K.idxOf t
theorem zdd9 (l K : List Nat) (k : Nat) (h : k < l.length) : smL l K (k + 1) = if K.contains (l.getD k 0) = true then smL l K k ++ [K.idxOf (l.getD k 0)] else smL l K k := by
 rw [smL, zg0 l 0 k h, List.filter_append, List.map_append, ← smL]
 by_cases hc : K.contains (l.getD k 0) = true
 ·rw [if_pos hc]; congr 1; simp only [List.filter_cons, hc, if_pos, List.filter_nil, List.map_cons, List.map_nil]
 ·rw [if_neg hc]
  have h2 : K.contains (l.getD k 0) = false := by simpa using hc
  simp only [List.filter_cons, h2, List.filter_nil]
  simp
theorem wdC9 (l K : List Nat) (k : Nat) : (smL l K k).length ≤ k := by
 rw [smL, List.length_map]
 have := List.length_filter_le (fun t => K.contains t) (l.take k)
 rw [List.length_take] at this
 omega
section
variable {A : Nat} {zr : Nat} {RN : List (List AV)} {c : Option Nat} {zs : Nat} {SS : List (List AV)} {cs : Option Nat} {za : Nat} {SF : List (List AV)} {ca : Option Nat} {zb : Nat} {RB : List (List AV)} {cb : Option Nat} {zt : Nat} {ST : List (List AV)} {ct : Option Nat} {zu : Nat} {SU : List (List AV)} {cu : Option Nat} {E0 : List Nat} {E1 : List AV}
def hT (A zr : Nat) (RN : List (List AV)) (c : Option Nat) (zs : Nat) (SS : List (List AV)) (cs : Option Nat) (za : Nat) (SF : List (List AV)) (ca : Option Nat) (zb : Nat) (RB : List (List AV)) (cb : Option Nat) (zt : Nat) (ST : List (List AV)) (ct : Option Nat) (zu : Nat) (SU : List (List AV)) (cu : Option Nat) (K E : List Nat) (NR : List (List AV)) (n : Nat) : List Blk :=
 [.row 4 29 [[.int .i64 A, .sl zr RN c, .sl zs SS cs, .sl za SF ca]], .row 4 29 [[.int .i64 0, .sl 0 [] (some 0), .sl 0 [] (some 0), .sl 0 [] (some 0)]], .row 4 29 [[.int .i64 A, .sl zb RB cb, .sl zt ST ct, .sl zu SU cu]], .row 4 68 [PS K], .row 4 68 [PS E], .row 1 3 NR, .row 1 27 [[.own 5 n n (some n)]]]
theorem kdj9 (h1 : ∀ p, idsE p RN = true) (h2 : ∀ p, idsE p SS = true) (h3 : ∀ p, idsE p SF = true) (h4 : ∀ p, idsE p RB = true) (h5 : ∀ p, idsE p ST = true) (h6 : ∀ p, idsE p SU = true) (K E : List Nat) (NR : List (List AV)) (n : Nat) (hn : NR.length = n) (h7 : ∀ p, idsE p NR = true) (hNR : ∀ t, t ∈ K → t < n ∧ NR.getD t [] = [.int .i64 (K.idxOf t : Nat)])
  (z : Nat) (l : List Nat) (cl : Option Nat) (hz : l = [] ∨ z = 1) (hl : l.length ≤ 256) (hlt : ∀ t ∈ l, t < 256) :
  qe0 Tryz.prog G0 39 [.sl z (ints (intN l)) cl, .ptr 3 0 0 1, .ptr 6 0 0 1] (hT A zr RN c zs SS cs za SF ca zb RB cb zt ST ct zu SU cu K E NR n) (.sl 1 (ints (intN (smL l K l.length))) (some (smL l K l.length).length)) (hT A zr RN c zs SS cs za SF ca zb RB cb zt ST ct zu SU cu K E NR n) := by
 have hil : (ints (intN l)).length = l.length := by rw [ka0, zb0]
 have hgl := kc0 (intN l)
 have hgn := qv0 l
 rw [zb0] at hgl
 have hidl : ∀ p, idsE p (ints (intN l)) = true := fun p => va0 _ _
 have hcl := fun H => xdi9 1 (ints (intN (smL l K l.length))) none H (.inr rfl) (fun p => va0 _ _)
 have hof := fun t ht => zdj9 t ht
 have hmt := fun t ht => zcB9 K t ht
 unfold hT
 generalize hIL : ints (intN l) = IL at *
 have hPK : ∀ p, idsL p (PS K) = true := fun p => xf0 p K
 have hPE : ∀ p, idsL p (PS E) = true := fun p => xf0 p E
 have hKl : (PS K).length = 4 := rfl
 have hKt : (PS K).take 4 = PS K := rfl
 have hKd : (PS K).drop 4 = [] := rfl
 generalize hPKe : PS K = pk at *
 generalize PS E = pe at *
 refine xI0 28 [.tmp 4] Tryz.func39 rfl rfl rfl (by simp) ?_
 intro s ⟨a0, a1, a2, hz⟩
 simp only [Nat.zero_add, Nat.reduceAdd] at a1 a2
 clear hz
 repeat' (first|refine nav ?_|(refine g0_ ?_; refine goD ?_)|(with_reducible refine gG ?_ ?_)|((with_reducible refine And.intro (fun h => ?_) (fun h => ?_)) <;> try (exfalso; omega))|(with_reducible refine andG ?_)|fail|simp (disch := (first|exact za0|fail)) only [push_cast, simprocAttr, a0, a1, a2, hil])
 refine go_loop rfl (fun mz s' H' => ∃ k : Nat, k ≤ l.length ∧ mz = l.length - k ∧ H' = [.row 4 29 [[.int .i64 A, .sl zr RN c, .sl zs SS cs, .sl za SF ca]], .row 4 29 [[.int .i64 0, .sl 0 [] (some 0), .sl 0 [] (some 0), .sl 0 [] (some 0)]], .row 4 29 [[.int .i64 A, .sl zb RB cb, .sl zt ST ct, .sl zu SU cu]], .row 4 68 [pk], .row 4 68 [pe], .row 1 3 NR, .row 1 27 [[.own 5 n n (some n)]], .row 1 3 (ints (intN (smL l K k)))] ∧ s' 1 = .ptr 3 0 0 1 ∧ s' 2 = .ptr 6 0 0 1 ∧ s' 4 = .own 7 (smL l K k).length (smL l K k).length none ∧ s' 7 = .sl z IL cl ∧ s' 8 = .int .i64 l.length ∧ s' 9 = .int .i64 k) (m := l.length) (by first|exact xb0|fail) (zp0 (t := 4) (sz := 1) (ty := 3) rfl) ⟨0, by omega, by omega, by simp [smL, intN, vn0], ?_⟩ ?_
 ·simp (disch := (first|exact za0|fail)) only [push_cast, simprocAttr, a0, a1, a2, hil]
  rfl
 ·rintro mz s' H' ⟨k, hk, rfl, rfl, b1, b2, b4, b7, b8, b9⟩
  have hll := wdC9 l K k
  have hml : (ints (intN (smL l K k))).length = (smL l K k).length := by rw [ka0, zb0]
  have et : (ints (intN (smL l K k))).take (smL l K k).length = ints (intN (smL l K k)) := List.take_of_length_le (by omega)
  have ed : (ints (intN (smL l K k))).drop ((smL l K k).length + 1) = [] := List.drop_eq_nil_of_le (by omega)
  have hids : ∀ p, idsE p (ints (intN (smL l K k))) = true := fun p => va0 _ _
  rcases Nat.lt_or_ge k l.length with hlk|hge
  ·obtain rfl := hz.resolve_left (by intro h; rw [h] at hlk; simp at hlk)
   have e1 := hgl k hlk
   rw [hgn k hlk] at e1
   have hm := qd0 (d := 0) hlk
   have hsu := zdd9 l K k hlk
   have ht := hlt _ hm
   generalize l.getD k 0 = t at *
   have hof := hof t ht
   have hmt := hmt t ht
   have hset : ∀ f, idsL f (setL (inL [(t : Int)])) = true := fun f => vh0 f _
   generalize setL (inL [(t : Int)]) = st at *
   cases hc : K.contains t with
   | true =>
    rw [hc] at hmt
    rw [hc, if_pos rfl] at hsu
    obtain ⟨hn1, e2⟩ := hNR t (List.contains_iff_mem.1 hc)
    have hsn := xm0 (intN (smL l K k)) ((K.idxOf t : Nat) : Int)
    rw [← zn0] at hsn
    repeat' (first|refine nav ?_|(refine g0_ ?_; refine goD ?_)|(with_reducible refine gG ?_ ?_)|((with_reducible refine And.intro (fun h => ?_) (fun h => ?_)) <;> try (exfalso; omega))|(with_reducible refine andG ?_)|(first|(refine ⟨_, _, qa0 (hof) (by (simp [idsL, idsE, AV.ids, h1, h2, h3, h4, h5, h6, h7, hidl, hPK, hPE, hids, hset])) _, ?_⟩)|(refine ⟨_, qa0 (hof) (by (simp [idsL, idsE, AV.ids, h1, h2, h3, h4, h5, h6, h7, hidl, hPK, hPE, hids, hset])) _, ?_⟩)|(refine ⟨_, fun _ => qa0 (hof) (by (simp [idsL, idsE, AV.ids, h1, h2, h3, h4, h5, h6, h7, hidl, hPK, hPE, hids, hset])) _, ?_⟩)|(refine ⟨_, _, qa0 (hmt) (by (simp [idsL, idsE, AV.ids, h1, h2, h3, h4, h5, h6, h7, hidl, hPK, hPE, hids, hset])) _, ?_⟩)|(refine ⟨_, qa0 (hmt) (by (simp [idsL, idsE, AV.ids, h1, h2, h3, h4, h5, h6, h7, hidl, hPK, hPE, hids, hset])) _, ?_⟩)|(refine ⟨_, fun _ => qa0 (hmt) (by (simp [idsL, idsE, AV.ids, h1, h2, h3, h4, h5, h6, h7, hidl, hPK, hPE, hids, hset])) _, ?_⟩))|simp (disch := (first|exact za0|fail)) only [push_cast, simprocAttr, b1, b2, b4, b7, b8, b9, hil, hKl, hKt, hKd, e1, e2, hn, hml, et, ed])
    refine xa0 (l.length - (k + 1)) (by omega) (by first|exact xb0|fail) ⟨k + 1, by omega, rfl, by rw [hsu, ← hsn], ?_⟩
    rw [hsu]
    simp (disch := (first|exact za0|fail)) only [push_cast, simprocAttr, b1, b2, b4, b7, b8, b9, hil, hKl, hKt, hKd, e1, e2, hn, hml, et, ed]
   | false =>
    rw [hc] at hmt
    rw [hc, if_neg (by decide)] at hsu
    repeat' (first|refine nav ?_|(refine g0_ ?_; refine goD ?_)|(with_reducible refine gG ?_ ?_)|((with_reducible refine And.intro (fun h => ?_) (fun h => ?_)) <;> try (exfalso; omega))|(with_reducible refine andG ?_)|(first|(refine ⟨_, _, qa0 (hof) (by (simp [idsL, idsE, AV.ids, h1, h2, h3, h4, h5, h6, h7, hidl, hPK, hPE, hids, hset])) _, ?_⟩)|(refine ⟨_, qa0 (hof) (by (simp [idsL, idsE, AV.ids, h1, h2, h3, h4, h5, h6, h7, hidl, hPK, hPE, hids, hset])) _, ?_⟩)|(refine ⟨_, fun _ => qa0 (hof) (by (simp [idsL, idsE, AV.ids, h1, h2, h3, h4, h5, h6, h7, hidl, hPK, hPE, hids, hset])) _, ?_⟩)|(refine ⟨_, _, qa0 (hmt) (by (simp [idsL, idsE, AV.ids, h1, h2, h3, h4, h5, h6, h7, hidl, hPK, hPE, hids, hset])) _, ?_⟩)|(refine ⟨_, qa0 (hmt) (by (simp [idsL, idsE, AV.ids, h1, h2, h3, h4, h5, h6, h7, hidl, hPK, hPE, hids, hset])) _, ?_⟩)|(refine ⟨_, fun _ => qa0 (hmt) (by (simp [idsL, idsE, AV.ids, h1, h2, h3, h4, h5, h6, h7, hidl, hPK, hPE, hids, hset])) _, ?_⟩))|simp (disch := (first|exact za0|fail)) only [push_cast, simprocAttr, b1, b2, b4, b7, b8, b9, hil, hKl, hKt, hKd, e1, hml, et, ed])
    refine xa0 (l.length - (k + 1)) (by omega) (by first|exact xb0|fail) ⟨k + 1, by omega, rfl, by rw [hsu], ?_⟩
    rw [hsu]
    simp (disch := (first|exact za0|fail)) only [push_cast, simprocAttr, b1, b2, b4, b7, b8, b9, hil, hKl, hKt, hKd, e1, hml, et, ed]
  ·obtain rfl : l.length = k := by omega
   generalize hIS : ints (intN (smL l K l.length)) = IS at *
   have hfz : (frzH 7 1 IS [.row 4 29 [[.int .i64 A, .sl zr RN c, .sl zs SS cs, .sl za SF ca]], .row 4 29 [[.int .i64 0, .sl 0 [] (some 0), .sl 0 [] (some 0), .sl 0 [] (some 0)]], .row 4 29 [[.int .i64 A, .sl zb RB cb, .sl zt ST ct, .sl zu SU cu]], .row 4 68 [pk], .row 4 68 [pe], .row 1 3 NR, .row 1 27 [[.own 5 n n (some n)]], .row 1 3 IS]).take 7 = [.row 4 29 [[.int .i64 A, .sl zr RN c, .sl zs SS cs, .sl za SF ca]], .row 4 29 [[.int .i64 0, .sl 0 [] (some 0), .sl 0 [] (some 0), .sl 0 [] (some 0)]], .row 4 29 [[.int .i64 A, .sl zb RB cb, .sl zt ST ct, .sl zu SU cu]], .row 4 68 [pk], .row 4 68 [pe], .row 1 3 NR, .row 1 27 [[.own 5 n n (some n)]]] := by
    unfold frzH
    rw [← List.map_take]
    refine xbX9 (Nat.le_refl 7) (fun b hb => ?_) ?_
    ·simp only [List.set_cons_succ, List.set_cons_zero, List.take_succ_cons, List.take_zero, List.mem_cons, List.not_mem_nil, or_false] at hb
     rcases hb with rfl|rfl|rfl|rfl|rfl|rfl|rfl <;> exact ⟨_, _, _, rfl⟩
    ·simp [Blk.below, idsE, idsL, AV.ids, h1, h2, h3, h4, h5, h6, h7, hPK, hPE]
   refine xE0 (by trivial) ((xA0 (j := 7) (sz := 1) (t := 3) (es := IS) rfl).trans (vF0 (m := 7) (by omega) (by simp [frzH]) (by rw [hfz]; simp [Blk.below, idsE, idsL, AV.ids, h1, h2, h3, h4, h5, h6, h7, hPK, hPE]))) ?_
   rw [hfz]
   repeat' (first|refine nav ?_|(refine g0_ ?_; refine goD ?_)|(with_reducible refine gG ?_ ?_)|((with_reducible refine And.intro (fun h => ?_) (fun h => ?_)) <;> try (exfalso; omega))|(with_reducible refine andG ?_)|(first|(refine ⟨_, _, hcl _, ?_⟩)|(refine ⟨_, hcl _, ?_⟩)|(refine ⟨_, fun _ => hcl _, ?_⟩))|simp (disch := (first|exact za0|fail)) only [push_cast, simprocAttr, b1, b2, b4, b7, b8, b9, xi0, frz, AV.ids, idsL, hids, hil, hml, et, hidl])
end
end Go.Proofs
namespace Go.Proofs
open Go Go.V Go.RowKit
set_option linter.unusedVariables false
set_option linter.unusedSimpArgs false
set_option maxHeartbeats 0
set_option maxRecDepth 100000
theorem zaF9 (c : UInt8) : ∀ p : Bs, ¬ c ∈ p → splitC c p = [p]
 | [], _ => rfl
 | b :: r, h => by
  have h1 : ¬ b = c := fun e => h (by rw [e]; exact List.mem_cons_self)
  rw [wu0 h1 (zaF9 c r fun q => h (List.mem_cons_of_mem _ q))]
theorem zaR9 (c : UInt8) : ∀ (p r : Bs), ¬ c ∈ p → splitC c (p ++ c :: r) = p :: splitC c r
 | [], r, _ => vG0 c r
 | b :: p, r, h => by
  have h1 : ¬ b = c := fun e => h (by rw [e]; exact List.mem_cons_self)
  rw [List.cons_append, wu0 h1 (zaR9 c p r fun q => h (List.mem_cons_of_mem _ q))]
structure SpI (c : UInt8) (s : Bs) (L : List Bs) (from_ i : Nat) : Prop where
 le : from_ ≤ i
 le2 : i ≤ s.length
 len : L.length ≤ i
 eq : splitC c s = L ++ splitC c (s.drop from_)
 no : ¬ c ∈ (s.take i).drop from_
theorem SpI.zero (c : UInt8) (s : Bs) : SpI c s [] 0 0 := ⟨by omega, by omega, by simp, by simp, by simp⟩
theorem xdd9 (s : Bs) {f i : Nat} (h : f ≤ i) (h2 : i ≤ s.length) : s.drop f = (s.take i).drop f ++ s.drop i := by
 conv => lhs; rw [← List.take_append_drop i s]
 rw [List.drop_append_of_le_length (by rw [List.length_take]; omega)]
theorem SpI.hit {c : UInt8} {s : Bs} {L : List Bs} {f i : Nat} (h : SpI c s L f i) (hi : i < s.length) (hc : s.getD i 0 = c) : SpI c s (L ++ [(s.take i).drop f]) (i + 1) (i + 1) := by
 refine ⟨by omega, by omega, by have := h.len; simp; omega, ?_, by simp [List.drop_eq_nil_of_le]⟩
 have e : s.drop i = c :: s.drop (i + 1) := by
  rw [List.drop_eq_getElem_cons hi]
  rw [List.getD_eq_getElem?_getD, List.getElem?_eq_getElem hi, Option.getD_some] at hc
  rw [hc]
 rw [h.eq, xdd9 s h.le h.le2, e, zaR9 c _ _ h.no, List.append_assoc]; rfl
theorem SpI.done {c : UInt8} {s : Bs} {L : List Bs} {f : Nat} (h : SpI c s L f s.length) : L ++ [s.drop f] = splitC c s := by
 have := h.no
 rw [List.take_length] at this
 rw [h.eq, zaF9 c _ this]
end Go.Proofs
namespace Go.Proofs
open Go Go.V Go.RowKit
set_option linter.unusedVariables false
set_option linter.unusedSimpArgs false
set_option maxHeartbeats 0
set_option maxRecDepth 100000
def intR (tx : Bs) : Int := (int4 tx).getD (-1)
end Go.Proofs
