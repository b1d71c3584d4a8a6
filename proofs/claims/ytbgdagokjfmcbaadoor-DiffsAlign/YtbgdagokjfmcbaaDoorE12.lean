import Derived.Test.YtbgdagokjfmcbaaDoorE9
import Derived.Test.YtbgdagokjfmcbaaDoorE4
namespace Go.Proofs
open Go Go.V
set_option linter.unusedVariables false
set_option linter.unusedSimpArgs false
def l1N (nb : Nat) (P : PP) (q : Nat) : List Int := (List.range nb).map fun t => if t < q then num1 nb P t else vn0 P t
def tkN (nb : Nat) (P : PP) (q : Nat) : List Bool := (List.range nb).map fun s => (List.range q).any fun t => decide (num1 nb P t = (s : Nat))
theorem xdg9 (nb : Nat) (P : PP) (q : Nat) : (l1N nb P q).length = nb := by simp [l1N]
theorem kbr9 (nb : Nat) (P : PP) (q : Nat) : (tkN nb P q).length = nb := by simp [tkN]
theorem xcJ9 (nb : Nat) (P : PP) : l1N nb P 0 = outM nb P := by
 refine List.map_congr_left fun t _ => ?_;rw [if_neg (Nat.not_lt_zero _)]
theorem wdg9 (nb : Nat) (P : PP) : l1N nb P nb = zq0 nb P := by
 refine List.map_congr_left fun t ht => ?_;rw [if_pos (List.mem_range.1 ht)]
theorem xdu9 {nb : Nat} {P : PP} {q : Nat} (h : q < nb) : (l1N nb P q).getD q 0 = vn0 P q := by simp [l1N, h]
theorem vdg9 {nb : Nat} {P : PP} {q : Nat} : (l1N nb P q).set q (num1 nb P q) = l1N nb P (q + 1) := by
 refine List.ext_getElem (by simp [l1N]) fun k h1 h2 => ?_;rw [List.getElem_set];simp only [l1N, List.getElem_map, List.getElem_range];by_cases h : q = k
 ·subst h; simp
 ·rw [if_neg h];by_cases h3 : k < q
  ·rw [if_pos h3, if_pos (by omega)]
  ·rw [if_neg h3, if_neg (by omega)]
theorem wcJ9 {nb : Nat} {P : PP} {q : Nat} (h : vn0 P q = num1 nb P q) : l1N nb P q = l1N nb P (q + 1) := by
 refine List.map_congr_left fun t _ => ?_;by_cases h2 : t = q
 ·subst h2;rw [if_neg (Nat.lt_irrefl _), if_pos (by omega), h]
 ·by_cases h3 : t < q
  ·rw [if_pos h3, if_pos (by omega)]
  ·rw [if_neg h3, if_neg (by omega)]
theorem qbA9 (nb : Nat) (P : PP) : tkN nb P 0 = List.replicate nb false := by
 refine List.ext_getElem (by simp [tkN]) fun k h1 h2 => ?_;simp [tkN]
theorem xcm9 (nb : Nat) (P : PP) : tkN nb P nb = kak9 nb (zq0 nb P) := by
 refine List.map_congr_left fun s _ => ?_;rw [zq0, List.any_map]; rfl
theorem zbA9 {nb : Nat} {P : PP} {q : Nat} (h : num1 nb P q = -1) : tkN nb P q = tkN nb P (q + 1) := by
 refine List.map_congr_left fun s _ => ?_;have : ¬ ((-1 : Int) = (s : Nat)) := by omega
 rw [List.range_succ, List.any_append, List.any_cons, List.any_nil, h, decide_eq_false this];simp
theorem wcm9 {nb : Nat} {P : PP} {q : Nat} (h : 0 ≤ num1 nb P q) : (tkN nb P q).set (num1 nb P q).toNat true = tkN nb P (q + 1) := by
 refine List.ext_getElem (by simp [tkN]) fun k h1 h2 => ?_;rw [List.getElem_set];simp only [tkN, List.getElem_map, List.getElem_range];rw [List.range_succ, List.any_append, List.any_cons, List.any_nil];by_cases h3 : (num1 nb P q).toNat = k
 ·rw [if_pos h3, decide_eq_true (show num1 nb P q = (k : Nat) by omega)]; simp
 ·rw [if_neg h3, decide_eq_false (show ¬ num1 nb P q = (k : Nat) by omega)]; simp
theorem xbA9 {na nb : Nat} {P : PP} (h : OkP na nb P) (q : Nat) : vn0 P q = -1 ∧ num1 nb P q = -1 ∨ (nb : Int) ≤ vn0 P q ∧ num1 nb P q = -1 ∨ (0 ≤ vn0 P q ∧ vn0 P q < nb) ∧ num1 nb P q = vn0 P q := by
 have h1 := qaH9 h q;unfold num1 at h1 ⊢;by_cases h2 : (nb : Int) ≤ vn0 P q
 ·rw [if_pos h2]; exact .inr (.inl ⟨h2, rfl⟩)
 ·rw [if_neg h2] at h1 ⊢;rcases h1 with h1|h1
  ·exact .inl ⟨h1, h1⟩
  ·exact .inr (.inr ⟨h1, rfl⟩)
def l2N (tk : List Bool) (N : List Int) (k : Nat) : List Int := fillL tk (N.take k) ++ N.drop k
def t2N (tk : List Bool) (N : List Int) (k : Nat) : List Bool := qR0 tk (N.take k)
theorem kM0 : ∀ (l : List Int) (tk : List Bool), (fillL tk l).length = l.length
 | [], _ => rfl
 | s :: r, tk => by
  rw [fillL];split
  ·rw [List.length_cons, kM0 r, List.length_cons]
  ·rw [List.length_cons, kM0 r, List.length_cons]
theorem wai9 {tk : List Bool} {N : List Int} {k : Nat} (h : k ≤ N.length) : (l2N tk N k).length = N.length := by
 rw [l2N, List.length_append, kM0, List.length_take, List.length_drop]; omega
theorem qbs9 (tk : List Bool) (N : List Int) (k : Nat) : (t2N tk N k).length = tk.length := wL0 _ _
theorem wbA9 (tk : List Bool) (N : List Int) : l2N tk N 0 = N := rfl
theorem vbA9 (tk : List Bool) (N : List Int) : t2N tk N 0 = tk := rfl
theorem vcm9 (tk : List Bool) (N : List Int) : l2N tk N N.length = fillL tk N := by
 rw [l2N, List.take_length, List.drop_length, List.append_nil]
section
variable {tk : List Bool} {N : List Int} {k : Nat}
theorem xcO9 (h : k < N.length) : (l2N tk N k).getD k 0 = N.getD k 0 := by
 have hl : (fillL tk (N.take k)).length = k := by rw [kM0, List.length_take]; omega
 rw [l2N, List.getD_eq_getElem?_getD, List.getElem?_append_right (by omega), hl, Nat.sub_self, List.getElem?_drop, List.getD_eq_getElem?_getD]; rfl
theorem qQ0 (h : k < N.length) : N.take (k + 1) = N.take k ++ [N.getD k 0] := by
 rw [List.take_succ_eq_append_getElem h]; simp [h]
theorem vai9 (h : k < N.length) : N.drop k = N.getD k 0 :: N.drop (k + 1) := by
 rw [List.drop_eq_getElem_cons h]; simp [h]
theorem kbA9 (h : k < N.length) (hs : N.getD k 0 = -1) : (l2N tk N k).set k (((t2N tk N k).idxOf false : Nat) : Int) = l2N tk N (k + 1) ∧ (t2N tk N k).set ((t2N tk N k).idxOf false) true = t2N tk N (k + 1) := by
 have hl : (fillL tk (N.take k)).length = k := by rw [kM0, List.length_take]; omega
 obtain ⟨f1, f2⟩ := qH0 (N.take k) [N.getD k 0] tk;constructor
 ·rw [l2N, l2N, qQ0 h, f1, List.set_append_right _ _ (by omega), hl, Nat.sub_self, vai9 h, List.set_cons_zero, hs, List.append_assoc];simp only [fillL, if_pos, List.cons_append, List.nil_append];rfl
 ·rw [t2N, t2N, qQ0 h, f2, hs];simp only [qR0, if_pos]
theorem qbB9 (h : k < N.length) (hs : N.getD k 0 ≠ -1) : l2N tk N k = l2N tk N (k + 1) ∧ t2N tk N k = t2N tk N (k + 1) := by
 obtain ⟨f1, f2⟩ := qH0 (N.take k) [N.getD k 0] tk;constructor
 ·rw [l2N, l2N, qQ0 h, f1, vai9 h, List.append_assoc];simp only [fillL, if_neg hs, List.cons_append, List.nil_append]
 ·rw [t2N, t2N, qQ0 h, f2];simp only [qR0, if_neg hs]
theorem vbg9 {nb : Nat} (hk : kH0 nb tk [] N) (h : k < N.length) (hs : N.getD k 0 = -1) : (t2N tk N k).idxOf false < nb := by
 have e : N = N.take k ++ N.getD k 0 :: N.drop (k + 1) := by rw [← vai9 h, List.take_append_drop]
 have hk2 := hk;rw [e] at hk2;exact (wah9 (xL0 _ _ _ _ hk2) hs).1
end
theorem waH9 : ∀ l : List Bool, l.idxOf false < l.length → idxL (fun b => false == b) l = ((l.idxOf false : Nat) : Int)
 | [], h => absurd h (Nat.not_lt_zero _)
 | false :: l, _ => by simp [idxL]
 | true :: l, h => by
  have e : (true :: l).idxOf false = l.idxOf false + 1 := by simp [List.idxOf_cons]
  rw [e] at h ⊢;have ih := waH9 l (by simpa using h);rw [idxL, if_neg (by decide), ih, if_neg (by omega)]; omega
theorem zbB9 {α : Type} (X : List α) (d : α) {j : Nat} (h : j < X.length) : (X.take j ++ List.replicate (X.length - j) d).set j (X.getD j d) = X.take (j + 1) ++ List.replicate (X.length - (j + 1)) d := by
 have hl : (X.take j).length = j := by rw [List.length_take]; omega
 rw [List.set_append_right _ _ (by omega), hl, Nat.sub_self, show X.length - j = (X.length - (j + 1)) + 1 by omega, List.replicate_succ, List.set_cons_zero, List.take_succ_eq_append_getElem h, List.append_assoc];simp [h]
theorem xbB9 {α : Type} (X : List α) (d : α) {j : Nat} (h : j ≤ X.length) : (X.take j ++ List.replicate (X.length - j) d).length = X.length := by
 rw [List.length_append, List.length_take, List.length_replicate]; omega
theorem wbB9 {α : Type} (X : List α) (d : α) : X.take X.length ++ List.replicate (X.length - X.length) d = X := by
 rw [Nat.sub_self, List.take_length, List.replicate_zero, List.append_nil]
set_option maxHeartbeats 0
set_option maxRecDepth 100000
theorem kcm9 (r : List Edg) (j : Nat) (e : Edg) : (rowA r).set j (eA e) = rowA (r.set j e) := by rw [rowA, rowA, List.map_set]
theorem zao9 (p : Nat → Bool) (l : List (List AV)) (k : Nat) (e : List AV) (h : idsE p l = true) (he : idsL p e = true) : idsE p (l.set k e) = true := by
 rw [xq0] at h ⊢;intro x hx;rcases List.mem_or_eq_of_mem_set hx with q|rfl
 ·exact h x q
 ·exact he
theorem qcn9 (r : List Edg) (j : Nat) : ((rowA r).getD j []).drop 2 = [] := by
 by_cases h : j < r.length
 ·rw [zg0 r j h]; rfl
 ·rw [List.getD_eq_getElem?_getD, List.getElem?_eq_none (by rw [za0]; omega)]; rfl
theorem vbB9 (F : List Int) (R : Rs) (c : Option Nat) (s : Nat) : ∀ k, ((alW F R c k).getD s []).drop 1 = []
 | 0 => by
  rw [alW, List.getD_eq_getElem?_getD, List.getElem?_replicate];split <;> rfl
 | k + 1 => by
  rw [alW, List.getD_eq_getElem?_getD, List.getElem?_set];have ih := vbB9 F R c s k;rw [List.getD_eq_getElem?_getD] at ih;split
  ·split <;> rfl
  ·exact ih
theorem zcn9 (I O O' : Nat) (la lb : List Row) (c d : Option Nat) (ha : we0 I O la = 0) (hb : we0 I O' lb = 0) :
  PC Tryd.prog G0 19 [mA I O la c, mA I O' lb d] (.tup [mA I O' (capR (some I) (zh0 (numsF lb.length (pairsP la lb I)) (edgesOf lb))) (some lb.length), .sl 1 (ints (numsF lb.length (pairsP la lb I))) (some lb.length), .int .i64 0]) := by
 have m1 := xe0 ha;have m2 := xe0 hb;have wa := zH0 ha;have wb := zH0 hb;have hC := zaO9 I O la c I O' lb d (by omega) (by omega) (fun j hj => by have := wa j hj; omega) (fun j hj => by have := wb j hj; omega);rw [zbe9 ha hb] at hC;have hM := kbb9 I O la c I O' lb d I (by omega) (by omega) (by omega) wa wb (qs0 ha) (qs0 hb);have hM2 := fun H => xcL9 (r' := .own H.length lb.length lb.length (some lb.length)) (es' := ints (outM lb.length (pairsP la lb I))) 0 2 H hM (by simp [idsL, AV.ids, mA, ke0]) rfl (by simp [okC, AV.closed, AV.ids, ints]) (by simp [kh0, ints]) (by simp [waZ9, vbI9]) (by simp [renR, renA]);clear hM;have hok := kac9 ha hb;have hj := vL0 la lb I;have hfi := qax9 hok hj;have hF := kan9 hok hj;have hpl := hok.len;generalize hP : pairsP la lb I = P at *;have hlR := wa0 lb;have hidR : ∀ p, idsE p (xb0 lb) = true := fun p => ke0 _ _;have hidA : ∀ p, idsE p (xb0 la) = true := fun p => ke0 _ _;have hl0 : (ints (outM lb.length P)).length = lb.length := by rw [zb0, vd0]
 unfold mA at *;refine wf0 1 128 [.cell 4 30, .tmp 5, .tmp 6] Tryd.func19 rfl rfl rfl (by simp) ?_;intro s ⟨a0, a1, hz⟩;simp only [Nat.zero_add, Nat.reduceAdd] at a1;clear hz;repeat' (first|(first|refine nav ?_|(refine g0_ ?_; first|refine dN (p := [0, 1, 1, 1, 1, 1, 1]) [(74, 3), (75, 74), (76, 3), (77, 76)] [(80, none)] [(8, 9)] ?_|refine goD ?_))|(with_reducible first|refine gG ?_ ?_|refine ⟨fun h => ?_, fun h => ?_⟩ <;> try omega|refine andG ?_)|refine cp_ hC ?_|refine cl_ (hM2 _) ?_|simp (disch := try exact qa0) only [push_cast, simprocAttr, a0, a1, hl0, zk0])
 refine go_loop rfl (fun mz s' H' => ∃ q : Nat, q ≤ lb.length ∧ mz = lb.length - q ∧ H' = [.row 3 30 [[.int .i64 I, .int .i64 O, .sl 1 (xb0 la) c]], .row 3 30 [[.int .i64 I, .int .i64 O', .sl 1 (xb0 lb) d]], .row 3 30 [[.int .i64 0, .int .i64 0, .sl 0 [] (some 0)]], .row 1 3 (ints (l1N lb.length P q)), .row 1 4 (xi0 (tkN lb.length P q))] ∧ s' 2 = .ptr 0 0 0 1 ∧ s' 3 = .ptr 1 0 0 1 ∧ s' 4 = .ptr 2 0 0 1 ∧ s' 8 = .own 3 lb.length lb.length (some lb.length) ∧ s' 9 = .own 4 lb.length lb.length (some lb.length) ∧ s' 33 = .own 3 lb.length lb.length (some lb.length) ∧ s' 34 = .int .i64 lb.length ∧ s' 35 = .int .i64 q) (m := lb.length) (by first|exact wb0|fail) (Weak.refl _ _) ⟨0, by omega, by omega, by rw [xcJ9, qbA9], ?_⟩ ?_
 ·simp (disch := try exact qa0) only [push_cast, simprocAttr, a0, a1, hl0, zk0]
 ·rintro mz s' H' ⟨q, hq, rfl, rfl, b2, b3, b4, b8, b9, b33, b34, b35⟩;have hll := xdg9 lb.length P q;have hlt := kbr9 lb.length P q;have hlL : (ints (l1N lb.length P q)).length = lb.length := by rw [zb0, hll]
  have hlT : (xi0 (tkN lb.length P q)).length = lb.length := by rw [vl0, hlt]
  rcases Nat.lt_or_ge q lb.length with hql|hge
  ·have e1 := wc0 (l1N lb.length P q) q (by omega);rw [xdu9 hql] at e1;have hset := vdg9 (nb := lb.length) (P := P) (q := q);have hkeep := wcJ9 (nb := lb.length) (P := P) (q := q);have htk := zbA9 (nb := lb.length) (P := P) (q := q);have hts := wcm9 (nb := lb.length) (P := P) (q := q);have hnk : vn0 P q < 1000000 := by
    by_cases h : vn0 P q = -1
    ·omega
    ·have := hok.b _ (xE0 h);dsimp only at this; omega
   rcases xbA9 hok q with ⟨h1, h2⟩|⟨h1, h2⟩|⟨h1, h2⟩
   ·rw [h1] at e1;have k1 := hkeep (h1.trans h2.symm);have k2 := htk h2;have hng : ¬ (lb.length : Int) ≤ -1 := by omega
    repeat' (first|(first|refine nav ?_|(refine g0_ ?_; first|refine dN (p := [0, 1, 1, 1, 1, 1, 1]) [(74, 3), (75, 74), (76, 3), (77, 76)] [(80, none)] [(8, 9)] ?_|refine goD ?_))|(with_reducible first|refine gG ?_ ?_|refine ⟨fun h => ?_, fun h => ?_⟩ <;> try omega|refine andG ?_)|simp (disch := try exact qa0) only [push_cast, simprocAttr, b2, b3, b4, b8, b9, b33, b34, b35, hlL, hlT, e1, hng])
    refine qb0 (lb.length - (q + 1)) (by omega) (by first|exact wb0|fail) ⟨q + 1, by omega, rfl, by rw [← k1, ← k2], ?_⟩;simp (disch := try exact qa0) only [push_cast, simprocAttr, b2, b3, b4, b8, b9, b33, b34, b35, hlL, hlT, e1, hng]
   ·have k2 := htk h2;rw [h2] at hset;generalize vn0 P q = x at *;repeat' (first|(first|refine nav ?_|(refine g0_ ?_; first|refine dN (p := [0, 1, 1, 1, 1, 1, 1]) [(74, 3), (75, 74), (76, 3), (77, 76)] [(80, none)] [(8, 9)] ?_|refine goD ?_))|(with_reducible first|refine gG ?_ ?_|refine ⟨fun h => ?_, fun h => ?_⟩ <;> try omega|refine andG ?_)|simp (disch := try exact qa0) only [push_cast, simprocAttr, b2, b3, b4, b8, b9, b33, b34, b35, hlL, hlT, e1, h1, vk0, hset])
    refine qb0 (lb.length - (q + 1)) (by omega) (by first|exact wb0|fail) ⟨q + 1, by omega, rfl, by rw [← k2], ?_⟩;simp (disch := try exact qa0) only [push_cast, simprocAttr, b2, b3, b4, b8, b9, b33, b34, b35, hlL, hlT, e1, h1, vk0, hset]
   ·have k1 := hkeep h2.symm;have k2 := hts (by omega);rw [h2] at k2;generalize vn0 P q = x at *;obtain ⟨y, rfl⟩ : ∃ y : Nat, x = y := ⟨x.toNat, by omega⟩;rw [Int.toNat_natCast] at k2;have hng : ¬ lb.length ≤ y := by omega
    have hne : ¬ (y : Int) = -1 := by omega
    have eB := ql0 (tkN lb.length P q) y (by omega);repeat' (first|(first|refine nav ?_|(refine g0_ ?_; first|refine dN (p := [0, 1, 1, 1, 1, 1, 1]) [(74, 3), (75, 74), (76, 3), (77, 76)] [(80, none)] [(8, 9)] ?_|refine goD ?_))|(with_reducible first|refine gG ?_ ?_|refine ⟨fun h => ?_, fun h => ?_⟩ <;> try omega|refine andG ?_)|simp (disch := try exact qa0) only [push_cast, simprocAttr, b2, b3, b4, b8, b9, b33, b34, b35, hlL, hlT, e1, hng, hne, qk0, k2, eB])
    refine qb0 (lb.length - (q + 1)) (by omega) (by omega) ⟨q + 1, by omega, rfl, by rw [← k1], ?_⟩;simp (disch := try exact qa0) only [push_cast, simprocAttr, b2, b3, b4, b8, b9, b33, b34, b35, hlL, hlT, e1, hng, hne, qk0, k2, eB]
  ·obtain rfl : q = lb.length := by omega
   rw [wdg9] at hlL ⊢;rw [xcm9] at hlT ⊢;clear hll hlt;repeat' (first|(first|refine nav ?_|(refine g0_ ?_; first|refine dN (p := [0, 1, 1, 1, 1, 1, 1]) [(74, 3), (75, 74), (76, 3), (77, 76)] [(80, none)] [(8, 9)] ?_|refine goD ?_))|(with_reducible first|refine gG ?_ ?_|refine ⟨fun h => ?_, fun h => ?_⟩ <;> try omega|refine andG ?_)|simp (disch := try exact qa0) only [push_cast, simprocAttr, b2, b3, b4, b8, b9, b33, b34, b35, hlL, hlT])
   have hN := vr0 lb.length P;have hT : (kak9 lb.length (zq0 lb.length P)).length = lb.length := hfi.n;generalize hN0 : zq0 lb.length P = N0 at *;generalize hT0 : kak9 lb.length N0 = T0 at *;have hnF : numsF lb.length P = fillL T0 N0 := by rw [numsF, hN0, hT0]
   refine go_loop rfl (fun mz s' H' => ∃ k : Nat, k ≤ lb.length ∧ mz = lb.length - k ∧ H' = [.row 3 30 [[.int .i64 I, .int .i64 O, .sl 1 (xb0 la) c]], .row 3 30 [[.int .i64 I, .int .i64 O', .sl 1 (xb0 lb) d]], .row 3 30 [[.int .i64 0, .int .i64 0, .sl 0 [] (some 0)]], .row 1 3 (ints (l2N T0 N0 k)), .row 1 4 (xi0 (t2N T0 N0 k))] ∧ s' 2 = .ptr 0 0 0 1 ∧ s' 3 = .ptr 1 0 0 1 ∧ s' 4 = .ptr 2 0 0 1 ∧ s' 8 = .own 3 lb.length lb.length (some lb.length) ∧ s' 9 = .own 4 lb.length lb.length (some lb.length) ∧ s' 53 = .own 3 lb.length lb.length (some lb.length) ∧ s' 54 = .int .i64 lb.length ∧ s' 55 = .int .i64 k) (m := lb.length) (by first|exact wb0|fail) (Weak.refl _ _) ⟨0, by omega, by omega, by rw [wbA9, vbA9], ?_⟩ ?_
   ·simp (disch := try exact qa0) only [push_cast, simprocAttr, b2, b3, b4, b8, b9, b33, b34, b35, hlL, hlT]
   ·clear b2 b3 b4 b8 b9 b33 b34 b35;rintro mz s' H' ⟨k, hk, rfl, rfl, b2, b3, b4, b8, b9, b53, b54, b55⟩;have hll := wai9 (tk := T0) (N := N0) (k := k) (by omega);have htl := qbs9 T0 N0 k;have hlL : (ints (l2N T0 N0 k)).length = lb.length := by rw [zb0, hll, hN]
    have hlT : (xi0 (t2N T0 N0 k)).length = lb.length := by rw [vl0, htl, hT]
    rcases Nat.lt_or_ge k lb.length with hkl|hge
    ·have e1 := wc0 (l2N T0 N0 k) k (by omega);rw [xcO9 (by omega)] at e1;by_cases hs : N0.getD k 0 = -1
     ·obtain ⟨f1, f2⟩ := kbA9 (tk := T0) (N := N0) (k := k) (by omega) hs;have hlt := vbg9 hfi (k := k) (by omega) hs;have hix := qdb9 (t2N T0 N0 k) false (some lb.length) (by omega);rw [waH9 _ (by omega)] at hix;rw [hs] at e1;generalize hj : (t2N T0 N0 k).idxOf false = j at *;have eT := ql0 (t2N T0 N0 k) j (by omega);have eN := wc0 (l2N T0 N0 (k + 1)) k (by rw [wai9 (by omega)]; omega);have hk1 : (l2N T0 N0 (k + 1)).getD k 0 = j := by
       rw [← f1, List.getD_eq_getElem?_getD, List.getElem?_set_self (by omega)]; rfl
      rw [hk1] at eN;have hlN2 : (ints (l2N T0 N0 (k + 1))).length = lb.length := by rw [zb0, wai9 (by omega), hN]
      have hac : ∀ H : List Blk, H[4]? = some (.row 1 4 (xi0 (t2N T0 N0 k))) → qg0 Tryd.prog G0 51 [.own 4 lb.length lb.length (some lb.length), .bool false] H (.int .i64 j) H := fun H hH => by
       refine zbW9 1 ?_ ?_ hix rfl
       ·simp [okA, okC, zj0, shOf, hH, hlT, AV.closed, AV.ids];intro e he x hx;exact (qY0 e).1 ((xq0 _).1 (xr0 kX0 _) e (List.mem_of_mem_take he)) x hx
       ·simp [kx0, kh0, hH, hlT];exact List.take_of_length_le (by omega)
      repeat' (first|(first|refine nav ?_|(refine g0_ ?_; first|refine dN (p := [0, 1, 1, 1, 1, 1, 1]) [(74, 3), (75, 74), (76, 3), (77, 76)] [(80, none)] [(8, 9)] ?_|refine goD ?_))|(with_reducible first|refine gG ?_ ?_|refine ⟨fun h => ?_, fun h => ?_⟩ <;> try omega|refine andG ?_)|refine cl_ (hac _ rfl) ?_|simp (disch := try exact qa0) only [push_cast, simprocAttr, b2, b3, b4, b8, b9, b53, b54, b55, hlL, hlT, e1, vk0, qk0, f1, f2, eT, eN, hlN2])
      refine qb0 (lb.length - (k + 1)) (by omega) (by first|exact wb0|omega) ⟨k + 1, by omega, rfl, rfl, ?_⟩;simp (disch := try exact qa0) only [push_cast, simprocAttr, b2, b3, b4, b8, b9, b53, b54, b55, hlL, hlT, e1, vk0, qk0, f1, f2, eT, eN, hlN2]
     ·obtain ⟨f1, f2⟩ := qbB9 (tk := T0) (N := N0) (k := k) (by omega) hs;generalize N0.getD k 0 = x at *;repeat' (first|(first|refine nav ?_|(refine g0_ ?_; first|refine dN (p := [0, 1, 1, 1, 1, 1, 1]) [(74, 3), (75, 74), (76, 3), (77, 76)] [(80, none)] [(8, 9)] ?_|refine goD ?_))|(with_reducible first|refine gG ?_ ?_|refine ⟨fun h => ?_, fun h => ?_⟩ <;> try omega|refine andG ?_)|simp (disch := try exact qa0) only [push_cast, simprocAttr, b2, b3, b4, b8, b9, b53, b54, b55, hlL, hlT, e1, hs])
      refine qb0 (lb.length - (k + 1)) (by omega) (by first|exact wb0|fail) ⟨k + 1, by omega, rfl, by rw [← f1, ← f2], ?_⟩;simp (disch := try exact qa0) only [push_cast, simprocAttr, b2, b3, b4, b8, b9, b53, b54, b55, hlL, hlT, e1, hs]
    ·obtain rfl : k = lb.length := by omega
     have hl2a : l2N T0 N0 lb.length = fillL T0 N0 := by rw [← hN]; exact vcm9 _ _
     rw [hl2a] at hlL ⊢;rw [← hnF] at *;repeat' (first|(first|refine nav ?_|(refine g0_ ?_; first|refine dN (p := [0, 1, 1, 1, 1, 1, 1]) [(74, 3), (75, 74), (76, 3), (77, 76)] [(80, none)] [(8, 9)] ?_|refine goD ?_))|(with_reducible first|refine gG ?_ ?_|refine ⟨fun h => ?_, fun h => ?_⟩ <;> try omega|refine andG ?_)|simp (disch := try exact qa0) only [push_cast, simprocAttr, b2, b3, b4, b8, b9, b53, b54, b55, hlL, hlT])
     clear hnF hl2a hll htl hlT hfi;generalize hR : edgesOf lb = R at *;obtain ⟨hF1, hF2, hF3⟩ := hF;generalize numsF lb.length P = F at *;have hidT : ∀ p, idsE p (xi0 (t2N T0 N0 lb.length)) = true := fun p => xr0 _ _;generalize xi0 (t2N T0 N0 lb.length) = BT at *;have hRl : R.length = lb.length := by rw [← hR, vc0]
     have hidF : ∀ p, idsE p (ints F) = true := fun p => wl0 _ _;refine go_loop rfl (fun mz s' H' => ∃ t : Nat, t ≤ lb.length ∧ mz = lb.length - t ∧ H' = [.row 3 30 [[.int .i64 I, .int .i64 O, .sl 1 (xb0 la) c]], .row 3 30 [[.int .i64 I, .int .i64 O', .sl 1 (xb0 lb) d]], .row 3 30 [[.int .i64 0, .int .i64 0, .sl 0 [] (some 0)]], .row 1 3 (ints F), .row 1 4 BT, .row 1 97 (alW F R (some I) t), .row 3 30 [[.int .i64 I, .int .i64 O', .own 5 lb.length lb.length (some lb.length)]]] ∧ s' 2 = .ptr 0 0 0 1 ∧ s' 3 = .ptr 1 0 0 1 ∧ s' 4 = .ptr 2 0 0 1 ∧ s' 8 = .own 3 lb.length lb.length (some lb.length) ∧ s' 14 = .ptr 6 0 0 1 ∧ s' 83 = .sl 1 (xb0 lb) d ∧ s' 84 = .int .i64 lb.length ∧ s' 85 = .int .i64 t) (m := lb.length) (by first|exact wb0|fail) (Weak.refl _ _) ⟨0, by omega, by omega, by rw [alW, hRl], ?_⟩ ?_
     ·simp (disch := try exact qa0) only [push_cast, simprocAttr, b2, b3, b4, b8, b9, b53, b54, b55, hlL, hlT]
     ·clear b2 b3 b4 b8 b9 b53 b54 b55;rintro mz s' H' ⟨t, ht, rfl, rfl, b2, b3, b4, b8, b14, b83, b84, b85⟩;have hWl : (alW F R (some I) t).length = lb.length := by rw [vah9, hRl]
      have hWi : ∀ p, idsE p (alW F R (some I) t) = true := fun p => qaR9 p t;rcases Nat.lt_or_ge t lb.length with htl|hge
      ·have hWs : alW F R (some I) (t + 1) = (alW F R (some I) t).set (F.getD t 0).toNat [.sl 2 (rowA (relE F (R.getD t []))) (some I)] := rfl;have eF := wc0 F t (by omega);have hFb := hF2 _ (vt0 (show t < F.length by omega));generalize F.getD t 0 = p0 at *;obtain ⟨p, rfl⟩ : ∃ p : Nat, p0 = p := ⟨p0.toNat, by omega⟩;rw [Int.toNat_natCast] at hWs;have e1 := xf0 lb t htl;have hwb := wb t htl;have hfit : ∀ j, j < I → ((lb.getD t ([], none)).1.getD j (0, 0)).1 = -1 ∨ (0 ≤ ((lb.getD t ([], none)).1.getD j (0, 0)).1 ∧ ((lb.getD t ([], none)).1.getD j (0, 0)).1 < lb.length) := fun j hj => qs0 hb t j htl hj;have hRt : R.getD t [] = (lb.getD t ([], none)).1 := by rw [← hR, kd0]
       rw [hRt] at hWs;generalize (lb.getD t ([], none)).2 = cr at *;generalize (lb.getD t ([], none)).1 = r at *;have hrl : (rowA r).length = I := by rw [za0, hwb]
       have hz : List.replicate I [AV.int .i64 0, AV.int .i64 0] = rowA ((relE F r).take 0 ++ List.replicate ((relE F r).length - 0) (0, 0)) := by simp [relE, hwb, rowA, eA]
       have hXl : (relE F r).length = I := by simp [relE, hwb]
       have hdW := vbB9 F R (some I) p t;generalize hW : alW F R (some I) t = WW at *;repeat' (first|(first|refine nav ?_|(refine g0_ ?_; first|refine dN (p := [0, 1, 1, 1, 1, 1, 1]) [(74, 3), (75, 74), (76, 3), (77, 76)] [(80, none)] [(8, 9)] ?_|refine goD ?_))|(with_reducible first|refine gG ?_ ?_|refine ⟨fun h => ?_, fun h => ?_⟩ <;> try omega|refine andG ?_)|simp (disch := try exact qa0) only [push_cast, simprocAttr, b2, b3, b4, b8, b14, b83, b84, b85, hlL, hlR, e1, hwb, hrl])
       refine go_loop rfl (fun mz s2 H2 => ∃ j : Nat, j ≤ I ∧ mz = I - j ∧ H2 = [.row 3 30 [[.int .i64 I, .int .i64 O, .sl 1 (xb0 la) c]], .row 3 30 [[.int .i64 I, .int .i64 O', .sl 1 (xb0 lb) d]], .row 3 30 [[.int .i64 0, .int .i64 0, .sl 0 [] (some 0)]], .row 1 3 (ints F), .row 1 4 BT, .row 1 97 WW, .row 3 30 [[.int .i64 I, .int .i64 O', .own 5 lb.length lb.length (some lb.length)]], .row 2 91 (rowA ((relE F r).take j ++ List.replicate ((relE F r).length - j) (0, 0)))] ∧ s2 2 = .ptr 0 0 0 1 ∧ s2 3 = .ptr 1 0 0 1 ∧ s2 4 = .ptr 2 0 0 1 ∧ s2 8 = .own 3 lb.length lb.length (some lb.length) ∧ s2 14 = .ptr 6 0 0 1 ∧ s2 83 = .sl 1 (xb0 lb) d ∧ s2 84 = .int .i64 lb.length ∧ s2 85 = .int .i64 t ∧ s2 15 = .int .i64 t ∧ s2 17 = .own 7 I I (some I) ∧ s2 93 = .sl 2 (rowA r) cr ∧ s2 94 = .int .i64 I ∧ s2 95 = .int .i64 j) (m := I) (by first|exact wb0|fail) (Weak.refl _ _) ⟨0, by omega, by omega, by rw [← hz], ?_⟩ ?_
       ·simp (disch := try exact qa0) only [push_cast, simprocAttr, b2, b3, b4, b8, b14, b83, b84, b85, hlL, hlR, e1, hwb, hrl]
       ·clear b2 b3 b4 b8 b14 b83 b84 b85;rintro mz s2 H2 ⟨j, hj, rfl, rfl, b2, b3, b4, b8, b14, b83, b84, b85, b15, b17, b93, b94, b95⟩;have hJl : (rowA ((relE F r).take j ++ List.replicate ((relE F r).length - j) (0, 0))).length = I := by rw [za0, xbB9 _ _ (by omega), hXl]
        rcases Nat.lt_or_ge j I with hjl|hge
        ·have eE := zg0 r j (by omega);have hft := hfit j hjl;have hXj : (relE F r).getD j (0, 0) = if (r.getD j (0, 0)).1 = -1 then r.getD j (0, 0) else (F.getD (r.getD j (0, 0)).1.toNat 0, (r.getD j (0, 0)).2) := by
          have : r.getD j (0, 0) = r[j]'(by omega) := by simp [hwb, hjl]
          rw [this, relE, List.getD_eq_getElem?_getD, List.getElem?_map, List.getElem?_eq_getElem (by omega)]; rfl
         have hps := zbB9 (relE F r) (0, 0) (j := j) (by omega);have hpr := congrArg rowA hps;rw [← kcm9] at hpr;generalize r.getD j (0, 0) = e at *;obtain ⟨x1, x2⟩ := e;dsimp only at hft hXj;simp only [eA] at eE;have hd2 := qcn9 ((relE F r).take j ++ List.replicate ((relE F r).length - j) (0, 0)) j;obtain ⟨RJ2, hRJ2⟩ : ∃ x, x = rowA ((relE F r).take (j + 1) ++ List.replicate ((relE F r).length - (j + 1)) (0, 0)) := ⟨_, rfl⟩;have hiJ : ∀ p, idsE p RJ2 = true := fun p => by rw [hRJ2]; exact wj0 _ _
         rw [← hRJ2] at hpr;generalize rowA ((relE F r).take j ++ List.replicate ((relE F r).length - j) (0, 0)) = RJ at *;have hg : ∀ v : List AV, (RJ.set j v).getD j [] = v := fun v => by rw [List.getD_eq_getElem?_getD, List.getElem?_set_self (by omega)]; rfl
         have hgl : ∀ v : List AV, (RJ.set j v).length = I := fun v => by rw [List.length_set, hJl]
         by_cases hx : x1 = -1
         ·rw [if_pos hx] at hXj;rw [hXj] at hpr;simp only [eA] at hpr;repeat' (first|(first|refine nav ?_|(refine g0_ ?_; first|refine dN (p := [0, 1, 1, 1, 1, 1, 1]) [(74, 3), (75, 74), (76, 3), (77, 76)] [(80, none)] [(8, 9)] ?_|refine goD ?_))|(with_reducible first|refine gG ?_ ?_|refine ⟨fun h => ?_, fun h => ?_⟩ <;> try omega|refine andG ?_)|simp (disch := try exact qa0) only [push_cast, simprocAttr, b2, b3, b4, b8, b14, b83, b84, b85, b15, b17, b93, b94, b95, hrl, hJl, eE, hx, hg, hgl, hpr])
          rw [hd2, ← hx, hpr];refine va0 (I - (j + 1)) 8 (by omega) (by first|exact wb0|fail) (by omega) (by simp) (by simp [Blk.below, idsE, idsL, AV.ids, hidA, hidR, hidF, hidT, hWi, hiJ]) ⟨j + 1, by omega, rfl, by simp only [List.take, hRJ2], ?_⟩;simp (disch := try exact qa0) only [push_cast, simprocAttr, b2, b3, b4, b8, b14, b83, b84, b85, b15, b17, b93, b94, b95, qe0, AV.ids, idsL]
         ·rw [if_neg hx] at hXj;rw [hXj] at hpr;simp only [eA] at hpr;have h0 := hft.resolve_left hx;have eG := wc0 F x1.toNat (by omega);generalize F.getD x1.toNat 0 = y1 at *;repeat' (first|(first|refine nav ?_|(refine g0_ ?_; first|refine dN (p := [0, 1, 1, 1, 1, 1, 1]) [(74, 3), (75, 74), (76, 3), (77, 76)] [(80, none)] [(8, 9)] ?_|refine goD ?_))|(with_reducible first|refine gG ?_ ?_|refine ⟨fun h => ?_, fun h => ?_⟩ <;> try omega|refine andG ?_)|simp (disch := try exact qa0) only [push_cast, simprocAttr, b2, b3, b4, b8, b14, b83, b84, b85, b15, b17, b93, b94, b95, hrl, hJl, eE, hx, hg, hgl, hpr, hlL, eG, List.set_set])
          rw [hd2, hpr];refine va0 (I - (j + 1)) 8 (by omega) (by first|exact wb0|fail) (by omega) (by simp) (by simp [Blk.below, idsE, idsL, AV.ids, hidA, hidR, hidF, hidT, hWi, hiJ]) ⟨j + 1, by omega, rfl, by simp only [List.take, hRJ2], ?_⟩;simp (disch := try exact qa0) only [push_cast, simprocAttr, b2, b3, b4, b8, b14, b83, b84, b85, b15, b17, b93, b94, b95, qe0, AV.ids, idsL]
        ·obtain rfl : j = I := by omega
         have hpa := wbB9 (relE F r) (0, 0);rw [hXl] at hpa hJl ⊢;rw [hpa] at hJl ⊢;have hidX : ∀ p, idsE p (rowA (relE F r)) = true := fun p => wj0 _ _;generalize rowA (relE F r) = RX at *;repeat' (first|(first|refine nav ?_|(refine g0_ ?_; first|refine dN (p := [0, 1, 1, 1, 1, 1, 1]) [(74, 3), (75, 74), (76, 3), (77, 76)] [(80, none)] [(8, 9)] ?_|refine goD ?_))|(with_reducible first|refine gG ?_ ?_|refine ⟨fun h => ?_, fun h => ?_⟩ <;> try omega|refine andG ?_)|simp (disch := try exact qa0) only [push_cast, simprocAttr, b2, b3, b4, b8, b14, b83, b84, b85, b15, b17, b93, b94, b95, hrl, hJl, hlL, eF, hWl])
         rw [hdW];have htX : RX.take j = RX := List.take_of_length_le (by omega);refine vg0 (lb.length - (t + 1)) 7 (j := 7) rfl (by omega) (by first|exact wb0|fail) (by omega) (by simp [frzH]) (by simp [frzH, frzB, frz, qi0, List.map_set, Blk.below, idsE, idsL, AV.ids, zd0, hidA, hidR, hidF, hidT, hWi, hJl, htX, hidX, zao9]) ⟨t + 1, by omega, rfl, by rw [hWs]; simp [frzH, frzB, frz, qi0, List.map_set, Blk.below, idsE, idsL, AV.ids, zd0, hidA, hidR, hidF, hidT, hWi, hJl, htX, hidX], ?_⟩;simp (disch := try exact qa0) only [push_cast, simprocAttr, b2, b3, b4, b8, b14, b83, b84, b85, b15, b17, b93, b94, b95, qe0, AV.ids, idsL, frz, hidR, idsE]
      ·obtain rfl : t = lb.length := by omega
       have hal : alW F R (some I) lb.length = xb0 (capR (some I) (zh0 F R)) := by rw [← hRl]; exact zck9 (by omega) hF1 (fun x hx => by rw [hRl]; exact hF2 x hx)
       rw [hal] at hWl ⊢;have hcl : (capR (some I) (zh0 F R)).length = lb.length := by rw [← wa0, hWl]
       have htW : (xb0 (capR (some I) (zh0 F R))).take lb.length = xb0 (capR (some I) (zh0 F R)) := List.take_of_length_le (by omega);have htF : (ints F).take lb.length = ints F := List.take_of_length_le (by omega);repeat' (first|(first|refine nav ?_|(refine g0_ ?_; first|refine dN (p := [0, 1, 1, 1, 1, 1, 1]) [(74, 3), (75, 74), (76, 3), (77, 76)] [(80, none)] [(8, 9)] ?_|refine goD ?_))|(with_reducible first|refine gG ?_ ?_|refine ⟨fun h => ?_, fun h => ?_⟩ <;> try omega|refine andG ?_)|simp (disch := try exact qa0) only [push_cast, simprocAttr, b2, b3, b4, b8, b14, b83, b84, b85, hlL, hlR, hWl, htW, htF, hcl])
end Go.Proofs
