import Derived.Test.YtcoakjnmnommpaaGreatDoorZ11
import Derived.Test.YtcoakjnmnommpaaGreatDoorZ10
import Derived.Test.YtcoakjnmnommpaaGreatDoorA26
import Derived.Test.YtcoakjnmnommpaaGreatDoorA20
import Derived.Test.YtcoakjnmnommpaaGreatDoorZ6
import Derived.Test.YtcoakjnmnommpaaGreatDoorV51
namespace Go.Proofs
open Go Go.V Go.RowKit
set_option linter.unusedVariables false
set_option linter.unusedSimpArgs false
set_option maxHeartbeats 0
set_option maxRecDepth 100000
def kpK (H1 H2 : List Nat) (s : Nat) : List Nat := (List.range s).filter fun t => H1.contains t && H2.contains t
def tmR (l : List RC) (K : List Nat) (s a : Nat) : List LC := (List.range a).map fun a => (intN (keC9 (lstC l s a).1 (intN K) K.length), none)
def tmN (A : Nat) (l : List RC) (K : List Nat) (i : Nat) : List RC := (List.range i).map fun i => (tmR l K (K.getD i 0) A, none)
def xdt9 (A : Nat) (l : List RC) (st ac : List Int) : List Nat := kpK (outQ (sucL l) A (natL st) l.length) (outQ (sucL (rvN A l l.length)) A (natL ac) l.length) l.length
theorem zbN9 (A : Nat) (l : List RC) {t : Nat} (ht : t < l.length) : (rowsV (rvN A l l.length)).getD t [] = (List.range A).map fun a => intN (revG l t a) := by
 simp [rowsV, rvN, rowV, rvR, ht, Function.comp_def]
theorem xeo9 {A : Nat} {l : List RC} {st ac : List Int} (h : OkNv A (rowsV l) st ac) : OkNv A (rowsV (rvN A l l.length)) ac st := by
 have hl : (rowsV (rvN A l l.length)).length = (rowsV l).length := by rw [wb0, wb0, zaN9]
 have hl2 : (rowsV l).length = l.length := wb0 l;refine ⟨h.a1, h.a2, by rw [hl]; exact h.n, by rw [hl]; exact h.ac, by rw [hl]; exact h.st, fun s hs => ?_, fun s a hs ha => ?_⟩
 ·rw [zbN9 A l (by omega)]; simp
 ·rw [zbN9 A l (by omega), hl, hl2];have : ((List.range A).map fun a => intN (revG l s a)).getD a [] = intN (revG l s a) := by simp [ha]
  rw [this];exact vL0 _ _
theorem vat9 {n : Nat} {S : List Nat} (h : FiltF n S) : S.Nodup := by
 obtain ⟨p, rfl⟩ := h;exact List.Nodup.sublist List.filter_sublist List.nodup_range
theorem wdV9 {A : Nat} {l : List RC} {st ac : List Int} (h : OkNv A (rowsV l) st ac) {s a : Nat} (hs : s < l.length) (ha : a < A) : ∀ t ∈ sucL l s a, t < l.length := fun t ht => by
 obtain ⟨x, hx, rfl⟩ := l'B.1 ht;have := qf0 (h.lst hs ha) x hx;omega
def smL (l K : List Nat) (k : Nat) : List Nat := ((l.take k).filter fun t => K.contains t).map fun t => K.idxOf t
theorem wdt9 (l K : List Nat) (k : Nat) (h : k < l.length) : smL l K (k + 1) = if K.contains (l.getD k 0) = true then smL l K k ++ [K.idxOf (l.getD k 0)] else smL l K k := by
 rw [smL, xd0 l 0 k h, n'w, z'g, ← smL];by_cases hc : K.contains (l.getD k 0) = true
 ·rw [if_pos hc]; congr 1; simp only [n'H, hc, if_pos, List.filter_nil, List.map_cons, List.map_nil]
 ·rw [if_neg hc];have h2 : K.contains (l.getD k 0) = false := by simpa using hc
  simp only [n'H, h2, List.filter_nil];simp
theorem vdV9 (l K : List Nat) (k : Nat) : (smL l K k).length ≤ k := by
 rw [smL, l'w];have := n'a (fun t => K.contains t) (l.take k);rw [n't] at this;omega
section
variable {A : Nat} {zr : Nat} {RN : List (List AV)} {c : Option Nat} {zs : Nat} {SS : List (List AV)} {cs : Option Nat} {za : Nat} {SF : List (List AV)} {ca : Option Nat} {zb : Nat} {RB : List (List AV)} {cb : Option Nat} {zt : Nat} {ST : List (List AV)} {ct : Option Nat} {zu : Nat} {SU : List (List AV)} {cu : Option Nat} {E0 : List Nat} {E1 : List AV}
def hT (A zr : Nat) (RN : List (List AV)) (c : Option Nat) (zs : Nat) (SS : List (List AV)) (cs : Option Nat) (za : Nat) (SF : List (List AV)) (ca : Option Nat) (zb : Nat) (RB : List (List AV)) (cb : Option Nat) (zt : Nat) (ST : List (List AV)) (ct : Option Nat) (zu : Nat) (SU : List (List AV)) (cu : Option Nat) (K E : List Nat) (NR : List (List AV)) (n : Nat) : List Blk :=
 [.row 4 29 [[.int .i64 A, .sl zr RN c, .sl zs SS cs, .sl za SF ca]], .row 4 29 [[.int .i64 0, .sl 0 [] (some 0), .sl 0 [] (some 0), .sl 0 [] (some 0)]], .row 4 29 [[.int .i64 A, .sl zb RB cb, .sl zt ST ct, .sl zu SU cu]], .row 4 68 [PS K], .row 4 68 [PS E], .row 1 3 NR, .row 1 27 [[.own 5 n n (some n)]]]
theorem zdC9 (h1 : ∀ p, idsE p RN = true) (h2 : ∀ p, idsE p SS = true) (h3 : ∀ p, idsE p SF = true) (h4 : ∀ p, idsE p RB = true) (h5 : ∀ p, idsE p ST = true) (h6 : ∀ p, idsE p SU = true) (K E : List Nat) (NR : List (List AV)) (n : Nat) (hn : NR.length = n) (h7 : ∀ p, idsE p NR = true) (hNR : ∀ t, t ∈ K → t < n ∧ NR.getD t [] = [.int .i64 (K.idxOf t : Nat)])
  (z : Nat) (l : List Nat) (cl : Option Nat) (hz : l = [] ∨ z = 1) (hl : l.length ≤ 256) (hlt : ∀ t ∈ l, t < 256) :
  wd0 Tryz.prog G0 39 [.sl z (ints (intN l)) cl, .ptr 3 0 0 1, .ptr 6 0 0 1] (hT A zr RN c zs SS cs za SF ca zb RB cb zt ST ct zu SU cu K E NR n) (.sl 1 (ints (intN (smL l K l.length))) (some (smL l K l.length).length)) (hT A zr RN c zs SS cs za SF ca zb RB cb zt ST ct zu SU cu K E NR n) := by
 have hil : (ints (intN l)).length = l.length := by rw [xa0, kc0]
 have hgl := xc0 (intN l);have hgn := wP0 l;rw [kc0] at hgl;have hidl : ∀ p, idsE p (ints (intN l)) = true := fun p => wa0 _ _;have hcl := fun H => kdA9 1 (ints (intN (smL l K l.length))) none H (.inr rfl) (fun p => wa0 _ _);have hof := fun t ht => xdB9 t ht;have hmt := fun t ht => zcO9 K t ht;unfold hT;generalize hIL : ints (intN l) = IL at *;have hPK : ∀ p, idsL p (PS K) = true := fun p => vo0 p K;have hPE : ∀ p, idsL p (PS E) = true := fun p => vo0 p E;have hKl : (PS K).length = 4 := rfl;have hKt : (PS K).take 4 = PS K := rfl;have hKd : (PS K).drop 4 = [] := rfl;generalize hPKe : PS K = pk at *;generalize PS E = pe at *;refine zJ0 28 [.tmp 4] Tryz.func39 rfl rfl rfl (by simp) ?_;intro s ⟨a0, a1, a2, hz⟩;simp only [l'm, Nat.reduceAdd] at a1 a2;clear hz;repeat' (first|refine nv ?_|(with_reducible first|refine gG ?_ ?_|refine ⟨fun h => ?_, fun h => ?_⟩ <;> try omega|refine andG ?_)|simp (disch := try exact qa0) only [push_cast, simprocAttr, a0, a1, a2, hil])
 refine go_loop rfl (fun mz s' H' => ∃ k : Nat, k ≤ l.length ∧ mz = l.length - k ∧ H' = [.row 4 29 [[.int .i64 A, .sl zr RN c, .sl zs SS cs, .sl za SF ca]], .row 4 29 [[.int .i64 0, .sl 0 [] (some 0), .sl 0 [] (some 0), .sl 0 [] (some 0)]], .row 4 29 [[.int .i64 A, .sl zb RB cb, .sl zt ST ct, .sl zu SU cu]], .row 4 68 [pk], .row 4 68 [pe], .row 1 3 NR, .row 1 27 [[.own 5 n n (some n)]], .row 1 3 (ints (intN (smL l K k)))] ∧ s' 1 = .ptr 3 0 0 1 ∧ s' 2 = .ptr 6 0 0 1 ∧ s' 4 = .own 7 (smL l K k).length (smL l K k).length none ∧ s' 7 = .sl z IL cl ∧ s' 8 = .int .i64 l.length ∧ s' 9 = .int .i64 k) (m := l.length) (by first|exact va0|fail) (zN0 (t := 4) (sz := 1) (ty := 3) rfl) ⟨0, by omega, by omega, by simp [smL, intN, zu0], ?_⟩ ?_
 ·simp (disch := try exact qa0) only [push_cast, simprocAttr, a0, a1, a2, hil];rfl
 ·rintro mz s' H' ⟨k, hk, rfl, rfl, b1, b2, b4, b7, b8, b9⟩;have hll := vdV9 l K k;have hml : (ints (intN (smL l K k))).length = (smL l K k).length := by rw [xa0, kc0]
  have et : (ints (intN (smL l K k))).take (smL l K k).length = ints (intN (smL l K k)) := l'k (by omega);have ed : (ints (intN (smL l K k))).drop ((smL l K k).length + 1) = [] := l'z (by omega);have hids : ∀ p, idsE p (ints (intN (smL l K k))) = true := fun p => wa0 _ _;rcases l'i k l.length with hlk|hge
  ·obtain rfl := hz.resolve_left (by intro h; rw [h] at hlk; simp at hlk);have e1 := hgl k hlk;rw [hgn k hlk] at e1;have hm := wc0 (d := 0) hlk;have hsu := wdt9 l K k hlk;have ht := hlt _ hm;generalize l.getD k 0 = t at *;have hof := hof t ht;have hmt := hmt t ht;have hset : ∀ f, idsL f (setL (inL [(t : Int)])) = true := fun f => xu0 f _;generalize setL (inL [(t : Int)]) = st at *;cases hc : K.contains t with
   | true =>
    rw [hc] at hmt;rw [hc, if_pos rfl] at hsu;obtain ⟨hn1, e2⟩ := hNR t (l'h.1 hc);have hsn := zy0 (intN (smL l K k)) ((K.idxOf t : Nat) : Int);rw [← zL0] at hsn;repeat' (first|refine nv ?_|(with_reducible first|refine gG ?_ ?_|refine ⟨fun h => ?_, fun h => ?_⟩ <;> try omega|refine andG ?_)|refine cp_ hof ?_ (hi := by (simp [idsL, idsE, AV.ids, h1, h2, h3, h4, h5, h6, h7, hidl, hPK, hPE, hids, hset]))|refine cp_ hmt ?_ (hi := by (simp [idsL, idsE, AV.ids, h1, h2, h3, h4, h5, h6, h7, hidl, hPK, hPE, hids, hset]))|simp (disch := try exact qa0) only [push_cast, simprocAttr, b1, b2, b4, b7, b8, b9, hil, hKl, hKt, hKd, e1, e2, hn, hml, et, ed])
    refine za0 (l.length - (k + 1)) (by omega) (by first|exact va0|fail) ⟨k + 1, by omega, rfl, by rw [hsu, ← hsn], ?_⟩;rw [hsu];simp (disch := try exact qa0) only [push_cast, simprocAttr, b1, b2, b4, b7, b8, b9, hil, hKl, hKt, hKd, e1, e2, hn, hml, et, ed]
   | false =>
    rw [hc] at hmt;rw [hc, if_neg (by decide)] at hsu;repeat' (first|refine nv ?_|(with_reducible first|refine gG ?_ ?_|refine ⟨fun h => ?_, fun h => ?_⟩ <;> try omega|refine andG ?_)|refine cp_ hof ?_ (hi := by (simp [idsL, idsE, AV.ids, h1, h2, h3, h4, h5, h6, h7, hidl, hPK, hPE, hids, hset]))|refine cp_ hmt ?_ (hi := by (simp [idsL, idsE, AV.ids, h1, h2, h3, h4, h5, h6, h7, hidl, hPK, hPE, hids, hset]))|simp (disch := try exact qa0) only [push_cast, simprocAttr, b1, b2, b4, b7, b8, b9, hil, hKl, hKt, hKd, e1, hml, et, ed])
    refine za0 (l.length - (k + 1)) (by omega) (by first|exact va0|fail) ⟨k + 1, by omega, rfl, by rw [hsu], ?_⟩;rw [hsu];simp (disch := try exact qa0) only [push_cast, simprocAttr, b1, b2, b4, b7, b8, b9, hil, hKl, hKt, hKd, e1, hml, et, ed]
  ·obtain rfl : l.length = k := by omega
   generalize hIS : ints (intN (smL l K l.length)) = IS at *;have hfz : (frzH 7 1 IS [.row 4 29 [[.int .i64 A, .sl zr RN c, .sl zs SS cs, .sl za SF ca]], .row 4 29 [[.int .i64 0, .sl 0 [] (some 0), .sl 0 [] (some 0), .sl 0 [] (some 0)]], .row 4 29 [[.int .i64 A, .sl zb RB cb, .sl zt ST ct, .sl zu SU cu]], .row 4 68 [pk], .row 4 68 [pe], .row 1 3 NR, .row 1 27 [[.own 5 n n (some n)]], .row 1 3 IS]).take 7 = [.row 4 29 [[.int .i64 A, .sl zr RN c, .sl zs SS cs, .sl za SF ca]], .row 4 29 [[.int .i64 0, .sl 0 [] (some 0), .sl 0 [] (some 0), .sl 0 [] (some 0)]], .row 4 29 [[.int .i64 A, .sl zb RB cb, .sl zt ST ct, .sl zu SU cu]], .row 4 68 [pk], .row 4 68 [pe], .row 1 3 NR, .row 1 27 [[.own 5 n n (some n)]]] := by
    unfold frzH;rw [← List.map_take];refine zci9 (l'f 7) (fun b hb => ?_) ?_
    ·simp only [List.set_cons_succ, List.set_cons_zero, List.take_succ_cons, List.take_zero, l'C, List.not_mem_nil, or_false] at hb;rcases hb with rfl|rfl|rfl|rfl|rfl|rfl|rfl <;> exact ⟨_, _, _, rfl⟩
    ·simp [Blk.below, idsE, idsL, AV.ids, h1, h2, h3, h4, h5, h6, h7, hPK, hPE]
   refine vv0 (by trivial) ((vN0 (j := 7) (sz := 1) (t := 3) (es := IS) rfl).trans (vY0 (m := 7) (by omega) (by simp [frzH]) (by rw [hfz]; simp [Blk.below, idsE, idsL, AV.ids, h1, h2, h3, h4, h5, h6, h7, hPK, hPE]))) ?_;rw [hfz];repeat' (first|refine nv ?_|(with_reducible first|refine gG ?_ ?_|refine ⟨fun h => ?_, fun h => ?_⟩ <;> try omega|refine andG ?_)|refine cl_ (hcl _) ?_|simp (disch := try exact qa0) only [push_cast, simprocAttr, b1, b2, b4, b7, b8, b9, ki0, frz, AV.ids, idsL, hids, hil, hml, et, hidl])
end
end Go.Proofs
