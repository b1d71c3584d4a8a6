import Derived.Test.YtbgdagokjfmcbaaDoorE9
import Derived.Test.YtbgdagokjfmcbaaDoorE8
import Derived.Test.YtbgdagokjfmcbaaDoorE11
import Derived.Test.YtbgdagokjfmcbaaDoorE16
import Derived.Test.YtbgdagokjfmcbaaDoorD27
import Derived.Test.YtbgdagokjfmcbaaDoorD23
import Derived.Test.YtbgdagokjfmcbaaDoorD28
import Derived.Test.YtbgdagokjfmcbaaDoorD30
import Derived.Test.YtbgdagokjfmcbaaDoorD31
namespace Go.Proofs
open Go Go.V
set_option linter.unusedVariables false
set_option linter.unusedSimpArgs false
set_option maxHeartbeats 0
set_option maxRecDepth 100000
theorem vcn9 (i o : Int) (l : List Row) (c : Option Nat) (i' o' : Int) (r : List Row) (d : Option Nat) (hl : we0 i o l = 0) (hr : we0 i' o' r = 0) (hi : i ≠ i') : PC Tryd.prog G0 19 [mA i o l c, mA i' o' r d] (.tup [.agg [.int .i64 0, .int .i64 0, .sl 0 [] (some 0)], .sl 0 [] (some 0), .int .i64 5]) := by
 obtain ⟨s1, s2⟩ := zP0 hl;obtain ⟨s3, s4⟩ := zP0 hr;have hC := zaO9 i o l c i' o' r d (by omega) (by omega) (fun j hj => by have := s2 j hj; omega) (fun j hj => by have := s4 j hj; omega);have he : wt0 i o l i' o' r = 5 := by rw [wt0, if_neg (by omega), if_neg (by omega), if_pos hi]
 rw [he] at hC;unfold mA at *;refine wf0 1 128 [.cell 4 30, .tmp 5, .tmp 6] Tryd.func19 rfl rfl rfl (by simp) ?_;intro s ⟨a0, a1, hz⟩;simp only [Nat.zero_add, Nat.reduceAdd] at a1;clear hz;repeat' (first|(first|refine nav ?_|(refine g0_ ?_; first|refine dN (p := [0, 1, 1, 1, 1, 1, 1]) [(74, 3), (75, 74), (76, 3), (77, 76)] [(80, none)] [(8, 9)] ?_|refine goD ?_))|(with_reducible first|refine gG ?_ ?_|refine ⟨fun h => ?_, fun h => ?_⟩ <;> try omega|refine andG ?_)|refine cp_ hC ?_|simp (disch := try exact qa0) only [push_cast, simprocAttr, a0, a1])
theorem kcn9 {F : List Nat} {j : Nat} (h : j < F.length) : F.getD j 0 ∈ F := by
 rw [List.getD_eq_getElem?_getD, List.getElem?_eq_getElem h]; exact List.getElem_mem _
def byL (b : List Nat) : List (List AV) := b.map fun (x : Nat) => [AV.int .u8 (x : Int)]
theorem zbN9 (b : List Nat) : (byL b).length = b.length := by simp [byL]
theorem qcK9 (b : List Nat) (k : Nat) (h : k < b.length) : (byL b).getD k [] = [.int .u8 (b.getD k 0 : Nat)] := by simp [byL, h]
theorem kbg9 {I O : Nat} {l r : List Row} (hl : we0 I O l = 0) (hr : we0 I O r = 0) (h : edgesOf l = edgesOf r) (c d : Option Nat) : PC Tryd.prog G0 21 [mA I O l c, mA I O r d] (.bool true) := by
 obtain ⟨s1, s2⟩ := zP0 hl;obtain ⟨s3, s4⟩ := zP0 hr;have := qbb9 I O l 1 c I O r 1 d (.inr rfl) (.inr rfl) (by omega) (by omega) (fun j hj => by have := s2 j hj; omega) (fun j hj => by have := s4 j hj; omega);rw [decide_eq_true ⟨rfl, rfl, h⟩] at this;exact this
theorem wdh9 {I O O' : Nat} {la lb : List Row} (ha : we0 I O la = 0) (hb : we0 I O' lb = 0) (l : List Row) (hl : edgesOf l = zh0 (numsF lb.length (pairsP la lb I)) (edgesOf lb)) : we0 I O' l = 0 := by
 have m2 := xe0 hb;have hok := kac9 ha hb;obtain ⟨h1, h2, h3⟩ := kan9 hok (vL0 la lb I);have hw := kt0 hb;have hf := vac9 hb;have hlR : (edgesOf lb).length = lb.length := vc0 lb;generalize numsF lb.length (pairsP la lb I) = F at *;have hll : l.length = lb.length := by rw [← vc0, hl, zh0, ki0, vc0]
 have hrow : ∀ s, s < lb.length → ∃ t, t < lb.length ∧ (edgesOf l).getD s [] = relE F ((edgesOf lb).getD t []) := fun s hs => by
  obtain ⟨t, ht, e⟩ := xbg9 h3 h1 h2 s hs;have := kL0 (F := F) (R := edgesOf lb) (by omega) h1 (fun x hx => by rw [hlR]; exact h2 x hx) (edgesOf lb).length (Nat.le_refl _) t (by omega);rw [e, Int.toNat_natCast] at this;exact ⟨t, ht, by rw [hl, zh0, this]⟩
 refine zA0 (by omega) (by omega) (by omega) (fun s hs => ?_) (fun r hr e he => ?_)
 ·rw [vc0] at hs;obtain ⟨t, ht, e⟩ := hrow s (by omega);rw [e, relE, List.length_map]; exact hw t (by omega)
 ·obtain ⟨s, hs, hse⟩ := List.getElem_of_mem hr;have hs' : s < lb.length := by rw [vc0] at hs; omega
  obtain ⟨t, ht, hte⟩ := hrow s hs';rw [List.getD_eq_getElem?_getD, List.getElem?_eq_getElem hs, Option.getD_some, hse] at hte;rw [hte] at he;obtain ⟨f, hf1, rfl⟩ := List.mem_map.1 he;obtain ⟨q, hq, hq2⟩ := wr0 hf1;have h5 := hf q hq f hq2;rw [hll];split
  ·exact h5
  ·rename_i hne;rw [qP0] at h5 ⊢;rcases h5 with h5|h5
   ·exact absurd h5.1 hne
   ·have := h2 _ (vt0 (F := F) (j := f.1.toNat) (by omega));exact .inr ⟨⟨this, h5.1.2⟩, h5.2⟩
theorem xdF9 {n b : Nat} (h2 : 2 < n) (hn : n ≤ 1000) (hb : b < 256) : IntKind.i64.wrap (1 + (IntKind.i64.wrap ((b : Int).tmod 16)).tmod ((n : Int) - 1)) = ((byX n b).1 : Nat) := by
 have e1 : (b : Int).tmod 16 = ((b % 16 : Nat) : Int) := wq0 b 16;have e2 : (n : Int) - 1 = ((n - 1 : Nat) : Int) := by omega
 have h3 := Nat.mod_lt (b % 16) (show 0 < n - 1 by omega);rw [e1, qh0 ((b % 16 : Nat) : Int) (by omega) (by omega), e2, wq0, byX];generalize b % 16 % (n - 1) = r at *;rw [qh0 _ (by omega) (by omega)];dsimp only;omega
theorem wdF9 {n b : Nat} (h2 : 2 < n) (hn : n ≤ 1000) (hb : b < 256) : IntKind.i64.wrap (1 + (IntKind.i64.wrap (IntKind.u8.wrap ((b : Int).tdiv 16))).tmod ((n : Int) - 1)) = ((byX n b).2 : Nat) := by
 have e1 : (b : Int).tdiv 16 = ((b / 16 : Nat) : Int) := wan9 b 16;have e2 : (n : Int) - 1 = ((n - 1 : Nat) : Int) := by omega
 have e3 : IntKind.u8.wrap ((b / 16 : Nat) : Int) = ((b / 16 : Nat) : Int) := by rw [IntKind.wrap_u8]; omega
 have h3 := Nat.mod_lt (b / 16) (show 0 < n - 1 by omega);rw [e1, e3, qh0 ((b / 16 : Nat) : Int) (by omega) (by omega), e2, wq0, byX];generalize b / 16 % (n - 1) = r at *;rw [qh0 _ (by omega) (by omega)];dsimp only;omega
theorem zcK9 (R : Rs) (bs : List Nat) : (¬ swK R bs < bs.length ∧ ¬ swK R bs < bs.length ∧ ¬ swK R bs < bs.length) ∨ (swK R bs < bs.length ∧ ¬ swK R bs < 6 ∧ ¬ swK R bs < 6) ∨ (swK R bs < bs.length ∧ swK R bs < 6 ∧ ¬ 2 < R.length) := by
 unfold swK;split <;> omega
theorem kdu9 (vI vO : Nat) (la : List Row) (y : MD) (zy : Nat) (cy : Option Nat) (bs : List Nat) (zb : Nat) (cb : Option Nat) (hv : we0 vI vO la = 0) (hy : y.Ok) (hzy : y.es = [] ∨ zy = 1) (hzb : bs = [] ∨ zb = 1) (hbs : ∀ b ∈ bs, b < 256) (s : Nat → AV) (q2 : s 2 = .sl zb (byL bs) cb) (q4 : s 4 = .iptr (mdC y zy cy) 0) (q7 : s 7 = .iptr [.int .i64 vI, .int .i64 vO, .sl 1 (xb0 la) none] 0) :
  Go false Tryd.prog G0 0 169 (ws0 Tryd.f5) [0, 1, 1, 1, 1, 1, 1] (xal9 false Tryd.prog G0 0 169 (ws0 Tryd.f5) [1, 1, 1, 1, 1, 1, 1] (vaz9 Tryd.prog 169 [ResultVar.tmp 6] 0 (.bool true))) True s [] := by
 have h15 := wdr9 y zy cy hy hzy;have hm := y.ok;have h24 := vdf9 y.I y.O (y.rows y.n) none hm (by have := (xe0 hm); omega);have hcm := zaR9 hm;have hcl := zay9 hm;have hsm := fun (C D : List Row) => wcl9 (bs := bs) hm (C := C) (D := D);have hsb := fun (C D : List Row) => wdf9 (bs := bs) hm (C := C) (D := D);generalize hR : canR y.I (y.rows y.n) = R at *;unfold mA mdC at *;repeat' (first|refine nv ?_|(with_reducible first|refine gG ?_ ?_|refine ⟨fun h => ?_, fun h => ?_⟩ <;> try omega|refine andG ?_)|refine cp_ h15 ?_|refine cp_ h24 ?_|simp (disch := try exact qa0) only [push_cast, simprocAttr, q2, q4, q7])
 have hRl := wa0 (vj0 R);rw [kw0] at hRl;have hbl := zbN9 bs;have hy16 := (xe0 hm).2.2.1;refine go_loop rfl (fun mz s' H' => ∃ k : Nat, k ≤ swK R bs ∧ mz = swK R bs - k ∧ H' = [.row 3 30 [[.int .i64 y.I, .int .i64 y.O, .sl 1 (xb0 (vj0 R)) none]], .row 3 30 [[.int .i64 y.I, .int .i64 y.O, .sl 1 (xb0 (vj0 (swN R bs k))) none]]] ∧ s' 2 = .sl zb (byL bs) cb ∧ s' 7 = .iptr [.int .i64 vI, .int .i64 vO, .sl 1 (xb0 la) none] 0 ∧ s' 16 = .ptr 0 0 0 1 ∧ s' 17 = .ptr 1 0 0 1 ∧ s' 18 = .int .i64 k) (m := swK R bs) (by first|exact wb0|fail) (Weak.refl _ _) ⟨0, by omega, by omega, rfl, ?_⟩ ?_
 ·simp (disch := try exact qa0) only [push_cast, simprocAttr, q2, q4, q7]
 ·clear q2 q4 q7;rintro mz s' H' ⟨k, hk, rfl, rfl, b2, b7, b16, b17, b18⟩;rcases Nat.lt_or_ge k (swK R bs) with hlt|hge
  ·have hK : 2 < R.length ∧ k < 6 ∧ k < bs.length := by
    unfold swK at hlt;split at hlt <;> omega
   obtain ⟨g1, g2, g3⟩ := hK;obtain rfl := hzb.resolve_left (by intro e; rw [e] at g3; exact absurd g3 (Nat.not_lt_zero _));have eb := qcK9 bs k g3;have hb := hbs (bs.getD k 0) (kcn9 g3);have hDm := hsm (vj0 R) (vj0 (swN R bs k)) (xm0 _) hk (xm0 _);have hnx : swN R bs (k + 1) = swR (byX R.length (bs.getD k 0)).1 (byX R.length (bs.getD k 0)).2 (swN R bs k) := rfl;have hbx := zcl9 g1 (bs.getD k 0);have h25 := kcj9 y.I y.O (vj0 (swN R bs k)) none (byX R.length (bs.getD k 0)).1 (byX R.length (bs.getD k 0)).2 (by have := y.bI; omega) (by rw [kw0, xH0]; exact hbx.1.2) (by rw [kw0, xH0]; exact hbx.2.2) (zH0 hDm) (by rw [kw0, xH0]; omega);rw [xm0, ← hnx] at h25;unfold mA at h25;generalize bs.getD k 0 = b at *;have g1' : (2 : Int) < R.length := by omega
   have g2' : (k : Int) < 6 := by omega
   have f1 := xdF9 (n := R.length) (b := b) (by omega) (by omega) hb;have f2 := wdF9 (n := R.length) (b := b) (by omega) (by omega) hb;have hne : ¬ (R.length : Int) - 1 = 0 := by omega
   repeat' (first|refine nv ?_|(with_reducible first|refine gG ?_ ?_|refine ⟨fun h => ?_, fun h => ?_⟩ <;> try omega|refine andG ?_)|refine cp_ h25 ?_|simp (disch := try exact qa0) only [push_cast, simprocAttr, b2, b7, b16, b17, b18, hRl, hbl, eb, g1, g2, g3, g1', g2', f1, f2, hne])
   refine qb0 (swK R bs - (k + 1)) (by omega) (by first|exact wb0|fail) ⟨k + 1, by omega, rfl, rfl, ?_⟩;simp (disch := try exact qa0) only [push_cast, simprocAttr, b2, b7, b16, b17, b18, hRl, hbl, eb, g1, g2, g3, g1', g2', f1, f2, hne]
  ·obtain rfl : k = swK R bs := by omega
   have hDm := hsm (vj0 R) (vj0 (swN R bs (swK R bs))) (xm0 _) (Nat.le_refl _) (xm0 _);have hCm := hcm (vj0 R) (xm0 _);have hback := hsb (vj0 R) (vj0 (swN R bs (swK R bs))) (xm0 _) (Nat.le_refl _) (xm0 _);have h19 := zcn9 y.I y.O y.O (vj0 R) (vj0 (swN R bs (swK R bs))) none none hCm hDm;rw [hback, xm0] at h19;have h21 := kbg9 (zaR9 hm (capR (some y.I) R) (by rw [kr0, hR])) hCm (by rw [kr0, xm0]) (some (vj0 (swN R bs (swK R bs))).length) none;have h16 := wdc9;have hxit := zcK9 R bs;have hbad := fun hne => vcn9 vI vO la none y.I y.O (vj0 R) none hv hCm hne;generalize ints (numsF (vj0 (swN R bs (swK R bs))).length (pairsP (vj0 R) (vj0 (swN R bs (swK R bs))) y.I)) = NN at *;generalize swN R bs (swK R bs) = D at *;generalize swK R bs = k at *;have hfin : ∀ s1 : Nat → AV, s1 7 = .iptr [.int .i64 vI, .int .i64 vO, .sl 1 (xb0 la) none] 0 → s1 16 = .iptr [.int .i64 y.I, .int .i64 y.O, .sl 1 (xb0 (vj0 R)) none] 0 → s1 17 = .iptr [.int .i64 y.I, .int .i64 y.O, .sl 1 (xb0 (vj0 D)) none] 0 → Go false Tryd.prog G0 0 169 (ws0 Tryd.f5) [0, 1, 1, 1, 1, 1, 1, 1, 1, 1] (xal9 false Tryd.prog G0 0 169 (ws0 Tryd.f5) [1, 1, 1, 1, 1, 1, 1, 1, 1, 1] (vaz9 Tryd.prog 169 [ResultVar.tmp 6] 0 (AV.bool true))) True s1 [] := by
    intro s1 r7 r16 r17;unfold mA at *;by_cases hi : (vI : Int) = y.I
    ·skip
     repeat' (first|refine nv ?_|(with_reducible first|refine gG ?_ ?_|refine ⟨fun h => ?_, fun h => ?_⟩ <;> try omega|refine andG ?_)|refine cp_ h19 ?_|refine cp_ h21 ?_|refine cp_ h16 ?_|simp (disch := try exact qa0) only [push_cast, simprocAttr, r7, r16, r17, hi])
    ·have hb := hbad hi;repeat' (first|refine nv ?_|(with_reducible first|refine gG ?_ ?_|refine ⟨fun h => ?_, fun h => ?_⟩ <;> try omega|refine andG ?_)|refine cp_ h19 ?_|refine cp_ hb ?_|refine cp_ h21 ?_|refine cp_ h16 ?_|simp (disch := try exact qa0) only [push_cast, simprocAttr, r7, r16, r17, hi])
   rcases hxit with ⟨k0, k1, k2⟩|⟨k0, k1, k2⟩|⟨k0, k1, k2⟩;all_goals
    repeat' (first|(first|(with_reducible refine wx0 (p := [0, 1, 1, 1, 1, 1, 1, 1, 1, 1]) ?_)|refine nav ?_|(refine g0_ ?_; first|refine goD ?_))|(with_reducible first|refine gG ?_ ?_|refine ⟨fun h => ?_, fun h => ?_⟩ <;> try omega|refine andG ?_)|simp (disch := try exact qa0) only [push_cast, simprocAttr, b2, b7, b16, b17, b18, hRl, hbl, k0, k1, k2])
    refine Halt.mk (vbu9 1 (by first|exact wb0|fail) fun s1 hs1 => ?_);have c7 := hs1 7;have c16 := hs1 16;have c17 := hs1 17;clear hs1;simp (disch := try exact qa0) only [push_cast, simprocAttr, b2, b7, b16, b17, b18, qak9] at c7 c16 c17;exact hfin s1 c7 c16 c17
theorem law5 (v : MD) (z : Nat) (c : Option Nat) (L : List Ch) (w : Nat) (d : Option Nat) (more less : Bool) (y : MD) (zy : Nat) (cy : Option Nat) (bs : List Nat) (zb : Nat) (cb : Option Nat) (hv : v.Ok) (hz : v.es = [] ∨ z = 1) (hL : ∀ e ∈ L, e.Ok) (hw : L = [] ∨ w = 4) (hy : y.Ok) (hzy : y.es = [] ∨ zy = 1) (hzb : bs = [] ∨ zb = 1) (hbs : ∀ b ∈ bs, b < 256) :
  PC Tryd.prog G0 5 [.agg (vC v z c L w d more less), .agg (mdC y zy cy), .sl zb (byL bs) cb] (.bool true) := by
 have h1 := of10 v z c L w d more less hv hz hL hw;have hm := v.ok;have hn := v.nxt_mach L more less;have bI := v.bI;have hal := wdh9 hm hn;have hl2 := kdu9 v.I v.O (v.rows v.n) y zy cy bs zb cb hm hy hzy hzb hbs;have hidb : ∀ p, idsE p (byL bs) = true := fun p => zn0 _ _ fun x => by simp [idsL, AV.ids]
 generalize qbq9 (v.nxt L more less) = lb at *;generalize v.rows v.n = la at *;generalize v.I = I at *;generalize v.O = O at *;have h19 := zcn9 I O O la lb none none hm hn;have h20 := qbN9 I O O la lb none none hm hn;have hok := kac9 hm hn;obtain ⟨f1, f2, f3⟩ := kan9 hok (vL0 la lb I);have m2 := xe0 hn;have f0 := wck9 hok (by omega);have hmk := fun k => kbe9 (I := I) (F := numsF lb.length (pairsP la lb I)) (B := edgesOf lb) (by rw [f3, vc0]) f1 (fun x hx => by rw [vc0]; exact f2 x hx) (kt0 hn) (fun t ht e he => by
  rw [vc0] at ht ⊢;exact wbr9 (vac9 hn) t (by omega) e (by simpa using he)) k 0 (by rw [vc0]; omega)
 rw [f0] at hmk;have hg1 := hal (capR (some I) (zh0 (numsF lb.length (pairsP la lb I)) (edgesOf lb))) (kr0 _ _);have hg2 := hal (capR none (zh0 (numsF lb.length (pairsP la lb I)) (edgesOf lb))) (kr0 _ _);have h21 := kbg9 hg1 hg2 (by rw [kr0, kr0]) (some lb.length) (some lb.length);have h22 := kcb9 (numsF lb.length (pairsP la lb I)) (numsF lb.length (pairsP la lb I)) (some lb.length) (some lb.length) (by omega) (by omega);rw [show vcZ9 (numsF lb.length (pairsP la lb I)) (numsF lb.length (pairsP la lb I)) = true from decide_eq_true ((wbc9 _ _).2 rfl)] at h22;have hcl : ∀ c, (capR c (zh0 (numsF lb.length (pairsP la lb I)) (edgesOf lb))).length = lb.length := fun c => by rw [kaQ9, zh0, ki0, vc0]
 have hce : edgesOf (capR (some I) (zh0 (numsF lb.length (pairsP la lb I)) (edgesOf lb))) = zh0 (numsF lb.length (pairsP la lb I)) (edgesOf lb) := kr0 _ _;have hFl : (ints (numsF lb.length (pairsP la lb I))).length = lb.length := by rw [zb0, f3]
 have hc1 := hcl (some I);rw [← hce] at hmk;generalize capR (some I) (zh0 (numsF lb.length (pairsP la lb I)) (edgesOf lb)) = G1 at *;generalize capR none (zh0 (numsF lb.length (pairsP la lb I)) (edgesOf lb)) = G2 at *;generalize numsF lb.length (pairsP la lb I) = F at *;have m3 := xe0 hg1;have h23 := zcJ9 I O O G1 lb (some lb.length) none (by omega) (by omega) (by omega) (by omega) (by omega) (by omega) (fun j hj => kt0 hg1 j (by rw [vc0]; exact hj)) (fun j hj => kt0 hn j (by rw [vc0]; exact hj)) (fun j i hj hi => by have := vM0 hg1 j i (by omega) hi; rw [kah9] at this; simp only [Int.toNat_natCast] at this; omega) (fun j i hj hi => by have := vM0 hn j i (by omega) hi; rw [kah9] at this; simp only [Int.toNat_natCast] at this; omega) (fun k => by rw [hc1]; have := hmk k; rw [vc0] at this; simpa using this);have hG1 := wa0 G1;rw [hc1] at hG1;have hq : (decide ((lb.length : Int) = lb.length)) = true := decide_eq_true rfl;unfold vC mdC mA at *;refine wf0 0 169 [.tmp 6] Tryd.func5 rfl rfl rfl (by simp) ?_;intro s ⟨a0, a1, a2, hz⟩;simp only [Nat.zero_add, Nat.reduceAdd] at a1 a2;clear hz;repeat' (first|(first|(with_reducible refine wx0 (p := [0, 1, 1, 1, 1, 1, 1]) ?_)|refine nav ?_|(refine g0_ ?_; first|refine goD ?_))|(with_reducible first|refine gG ?_ ?_|refine ⟨fun h => ?_, fun h => ?_⟩ <;> try omega|refine andG ?_)|refine cp_ h1 ?_|refine cp_ h19 ?_|refine cp_ h20 ?_|refine cp_ h21 ?_|refine cp_ h22 ?_|refine cp_ h23 ?_|simp (disch := try exact qa0) only [push_cast, simprocAttr, a0, a1, a2, hFl, hG1])
 refine Halt.mk (vbu9 1 (by first|exact wb0|fail) fun s1 hs1 => ?_);have c2 := hs1 2;have c4 := hs1 4;have c7 := hs1 7;clear hs1;simp (disch := try exact qa0) only [push_cast, simprocAttr, a0, a1, a2, qak9, hidb] at c2 c4 c7;exact hl2 s1 c2 c4 c7
end Go.Proofs
namespace Go.Proofs.YtbgdagokjfmcbaaDoor
open Go Go.V Go.ChangeShapes Go.WideShapes Go.ChangeAt Go.RowKit
set_option linter.unusedVariables false
set_option maxRecDepth 100000
theorem zbs9 {W : World} {base : Nat} {t e : TypeId} {v : Value} (hu : Tryd.prog.underlying t = some (.slice e)) (hw : Value.okWide Tryd.prog W .any base t v) : v.cells = #[v] := by
 unfold Value.okWide Cell.okWide at hw;rw [hu] at hw;simp only at hw;unfold Cell.ok at hw;rw [hu] at hw;cases v <;> first|rfl|(simp at hw)
noncomputable def vU8s : View Tryd.prog 49 (List Int × Nat) := View.slice 1 Tryd.underlying49 (by kernel_rfl) (by decide) (View.int .u8 Tryd.underlying5)
theorem vdF9 {H : Type} {enc : TypeId × Value → H} {W : World} {base : Nat} {v : Value} {d : DataW H} {ps : List MemPlace} (hw : Value.okWide Tryd.prog W .any base 49 v) (h : DataW.Trod enc Tryd.prog W 0 (fun _ => true) true 49 v d ps) :
  ∃ (bs : List Nat) (c : Nat), (∀ b ∈ bs, b < 256) ∧ Rel (EnvW W) (.sl 1 (byL bs) (some c)) v := by
 obtain ⟨y, ⟨q1, q2, q3⟩, q4⟩ := xcW9 (a := fun y : List Int × Nat => .sl 1 (y.1.map fun n => [AV.int .u8 n]) (some y.2)) vU8s (fun _ => rfl) (zbs9 Tryd.underlying49 hw) h;obtain ⟨y1, y2⟩ := y;obtain ⟨r, rfl, hr⟩ := zbq9 (fun n (hn : (Lit.int .u8 n).wf = true) => wbe9 hn) y1 q1;refine ⟨r, y2, hr, ?_⟩;have e : ((r.map fun (n : Nat) => (n : Int)).map fun n => [AV.int .u8 n]) = byL r := by simp [byL, Function.comp_def]
 rw [← e]; exact q4
end Go.Proofs.YtbgdagokjfmcbaaDoor
