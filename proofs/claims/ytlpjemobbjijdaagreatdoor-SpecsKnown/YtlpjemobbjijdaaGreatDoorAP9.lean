import Derived.Test.YtlpjemobbjijdaaGreatDoorLP2
import Derived.Test.YtlpjemobbjijdaaGreatDoorNUM
import Derived.Test.YtlpjemobbjijdaaGreatDoorV33
import Derived.Lib.SlicesCompact
import Derived.Lib.AtoiTie
namespace Go.Proofs
set_option linter.unusedVariables false
set_option linter.unusedSimpArgs false
def c10 (s : Bs) : Nat := (s.filter fun b => decide (b = 10)).length
theorem xO0 (b : UInt8) (r : Bs) : c10 (b :: r) = (if b = 10 then 1 else 0) + c10 r := by
 unfold c10;by_cases h : b = 10
 ·rw [List.filter_cons_of_pos (by simp [h]), List.length_cons, if_pos h]; omega
 ·rw [List.filter_cons_of_neg (by simp [h]), if_neg h]; omega
theorem zD0 (s t : Bs) : c10 (s ++ t) = c10 s + c10 t := by unfold c10; rw [List.filter_append, l'i]
theorem kbE9 (s : Bs) : c10 (toNl s) = c10 s := by
 unfold toNl;induction s with
 | nil => rfl
 | cons b r ih =>
  rw [n'd];split
  ·rename_i h;have : ¬ b = 10 := by simpa using h
   rw [ih, xO0, if_neg this]; omega
  ·rfl
theorem waU9 : ∀ (w : Bs), (∀ b ∈ w, ¬ b = 10 ∧ ¬ b = 35) → c10 w = 0
 | [], _ => rfl
 | b :: r, h => by rw [xO0, if_neg (h b l'm).1, waU9 r fun x hx => h x (l'v _ hx)]
theorem kdq9 (s : Bs) : c10 (s.drop (tokS s).2.1) = c10 s := by
 have h := zD0 (s.take (tokS s).2.1) (s.drop (tokS s).2.1);rw [n'x, waU9 _ (zO0 s)] at h;omega
def vaU9 : LexR → LexR → LexR
 | .ok a, r => r.app a
 | .err l c e, _ => .err l c e
theorem wcn9 (t : Tk) (a r : LexR) : vaU9 (a.cons t) r = (vaU9 a r).cons t := by cases a <;> cases r <;> rfl
structure Tail (u t : Bs) : Prop where
 at1 : ∀ l c, lexR u l c = lexR t (l + 1) 1
 at2 : ∀ l c, lexR (toNl u) l c = lexR t (l + 1) 1
 wrd : wrdB (u.headD 0) = false
 mrk : ∀ b, wI0 b (u.headD 0) = false
 pos : u ≠ []
theorem qaM9 {u t : Bs} (h : Tail u t) : ∀ r : Bs, wordS (r ++ u) = wordS r
 | [] => by
  match u, h.pos, h.wrd with
  | x :: u', _, hw =>
   simp only [List.headD_cons] at hw;simp [wordS, hw]
 | a :: r => by
  have := qaM9 h r;simp only [wordS, List.cons_append, List.takeWhile_cons] at *;rw [this]
theorem qbT9 {u t : Bs} (h : Tail u t) (b : UInt8) (r : Bs) : zm0 (b :: r ++ u) = zm0 (b :: r) := by
 match r with
 | d :: r => rfl
 | [] =>
  match u, h.pos, h.mrk with
  | x :: u', _, hm =>
   have := hm b;simp only [List.headD_cons] at this;simp [zm0, vx0, this]
theorem vcn9 {u t : Bs} (h : Tail u t) (b : UInt8) (r : Bs) : tokS (b :: r ++ u) = tokS (b :: r) := by
 have e1 : wordS (b :: r ++ u) = wordS (b :: r) := qaM9 h _;have e2 := qbT9 h b r;unfold tokS;rw [e1, e2]; rfl
theorem wcP9 (r u : Bs) : (toNl (r ++ u) = toNl r ++ u) ∨ (toNl r = [] ∧ toNl (r ++ u) = toNl u) := by
 induction r with
 | nil => right; exact ⟨rfl, rfl⟩
 | cons b r ih =>
  unfold toNl at *;rw [List.cons_append, n'd, n'd];split
  ·exact ih
  ·left; rfl
theorem wab9 {u t : Bs} (h : Tail u t) : ∀ (n : Nat) (s : Bs), s.length < n → ∀ l c, lexR (s ++ u) l c = vaU9 (lexR s l c) (lexR t (l + c10 s + 1) 1)
 | 0, _, hn, _, _ => by omega
 | n + 1, [], _, l, c => by
  rw [List.nil_append, h.at1, vG0];have : c10 [] = 0 := rfl;rw [vaU9, this, LexR.app_nil]; simp
 | n + 1, b :: r, hn, l, c => by
  simp only [List.length_cons] at hn;have ht := vcn9 h b r;rw [List.cons_append] at ht;rw [List.cons_append, xe0, xe0 b r, ht];by_cases e1 : b = 10
  ·rw [if_pos e1, if_pos e1, wab9 h n r (by omega), xO0, if_pos e1];congr 2; simp; omega
  ·rw [if_neg e1, if_neg e1];by_cases e2 : blkB b = true
   ·rw [if_pos e2, if_pos e2, wab9 h n r (by omega), xO0, if_neg e1];congr 2; simp
   ·rw [if_neg e2, if_neg e2];by_cases e3 : b = 35
    ·rw [if_pos e3, if_pos e3, xO0, if_neg e1];rcases wcP9 r u with q|⟨q1, q2⟩
     ·rw [q, wab9 h n (toNl r) (by have := zar9 r; omega), kbE9];congr 2; simp
     ·rw [q1, q2, h.at2, vG0, vaU9, LexR.app_nil, ← kbE9 r, q1];congr 1; simp [c10]
    ·rw [if_neg e3, if_neg e3];by_cases e4 : (tokS (b :: r)).2.2 = 0
     ·rw [if_neg (by simp [e4]), if_neg (by simp [e4]), wcn9];have hp := wG0 e4;have hl := qaj9 (b :: r);have hd : (b :: (r ++ u)).drop (tokS (b :: r)).2.1 = (b :: r).drop (tokS (b :: r)).2.1 ++ u := by
       rw [← List.cons_append, List.drop_append_of_le_length hl]
      have hk : (b :: (r ++ u)).take (tokS (b :: r)).2.1 = (b :: r).take (tokS (b :: r)).2.1 := by
       rw [← List.cons_append, List.take_append_of_le_length hl]
      rw [hd, hk, wab9 h n _ (by rw [l'z, List.length_cons]; simp only [List.length_cons] at hl; omega), kdq9]
     ·rw [if_pos e4, if_pos e4]; rfl
theorem qdr9 (t : Bs) : Tail (10 :: t) t := by
 refine ⟨fun l c => ?_, fun l c => ?_, rfl, fun b => ?_, by simp⟩
 ·rw [xe0, if_pos rfl]
 ·have : toNl (10 :: t) = 10 :: t := rfl;rw [this, xe0, if_pos rfl]
 ·simp [wI0]
theorem xdc9 (s t : Bs) : lexR (s ++ 10 :: t) 1 1 = vaU9 (lexR s 1 1) (lexR t (1 + c10 s + 1) 1) := wab9 (qdr9 t) _ s (n'X _) 1 1
def zej9 (d : Int) (t : Tk) : Tk := ⟨t.k, t.t, t.l + d, t.c⟩
def kep9 (d : Int) : LexR → LexR
 | .ok l => .ok (l.map (zej9 d))
 | .err l c e => .err (l + d) c e
def qk0 (k : Int) (w : Bs) : Prop := tokS w = (k, w.length, 0) ∧ w ≠ []
theorem zaj9 {k : Int} {b : UInt8} {r : Bs} (h : qk0 k (b :: r)) : ¬ blkB b = true ∧ ¬ b = 10 ∧ ¬ b = 35 := by
 have he : (tokS (b :: r)).2.2 = 0 := by rw [h.1]
 have hb := zO0 (b :: r) b;rw [h.1, l'E] at hb;have := hb l'm;refine ⟨fun q => ?_, this.1, this.2⟩;have hc : b = 32 ∨ b = 9 ∨ b = 13 := by simpa [blkB, or_assoc] using q
 have hm : wrdB b = false ∧ sngB b = false ∧ (∀ d, wI0 b d = false) := by
  rcases hc with rfl|rfl|rfl <;> exact ⟨by decide, by decide, fun d => by simp [wI0]⟩
 have hp : vx0 (b :: r) = false := by cases r <;> simp [vx0, hm.2.2]
 simp [tokS, hm.1, zm0, hp, hm.2.1] at he
theorem kcn9 {k : Int} {w : Bs} (h : qk0 k w) (l c : Int) : lexR w l c = .ok [⟨k, w, l, c⟩] := by
 match w, h with
 | [], h => exact absurd rfl h.2
 | b :: r, h =>
  have hh := zaj9 h;rw [xe0, if_neg hh.2.1, if_neg hh.1, if_neg hh.2.2, h.1];simp [vG0, LexR.cons]
theorem qco9 (t : Bs) {k : Int} {w : Bs} (h : qk0 k w) (l c : Int) : lexR (w ++ 32 :: t) l c = (lexR t l (c + w.length + 1)).cons ⟨k, w, l, c⟩ := by
 match w, h with
 | [], h => exact absurd rfl h.2
 | b :: r, h =>
  have hh := zaj9 h;have hT : Tail (32 :: (10 :: t)) t := by
   refine ⟨fun l c => ?_, fun l c => ?_, rfl, fun b => ?_, by simp⟩
   ·rw [xe0, if_neg (by decide), if_pos (by decide), xe0, if_pos rfl]
   ·have : toNl (32 :: 10 :: t) = 10 :: t := rfl;rw [this, xe0, if_pos rfl]
   ·simp [wI0]
  have ht : tokS (b :: r ++ 32 :: t) = tokS (b :: r) := by
   have e1 : wordS (b :: r ++ 32 :: t) = wordS (b :: r) := by
    have e : ∀ r : Bs, wordS (r ++ 32 :: t) = wordS r := by
     intro r;induction r with
     | nil => simp [wordS, show wrdB 32 = false by decide]
     | cons a r ih => simp only [wordS, List.cons_append, List.takeWhile_cons] at *; rw [ih]
    exact e _
   have e2 : zm0 (b :: r ++ 32 :: t) = zm0 (b :: r) := by
    match r with
    | d :: r => rfl
    | [] => simp [zm0, vx0, wI0]
   unfold tokS;rw [e1, e2]; rfl
  rw [List.cons_append] at ht;rw [List.cons_append, xe0, if_neg hh.2.1, if_neg hh.1, if_neg hh.2.2, ht, h.1];simp only [ne_eq, not_true_eq_false, if_false];rw [← List.cons_append, List.drop_left, List.take_left, xe0, if_neg (by decide), if_pos (by decide)]
theorem zco9 (k : Int) (w : Bs) (hw : w ≠ []) : (∃ l c, lexR w 1 1 = .ok [⟨k, w, l, c⟩]) ↔ qk0 k w := by
 constructor
 ·rintro ⟨l, c, h⟩;refine ⟨?_, hw⟩;rcases zcn9 w false 1 1 with ⟨_, h2⟩|⟨b, r, hd, _, h2, h1, h3, hl⟩
  ·have : lexX false w 1 1 = .ok [⟨k, w, l, c⟩] := h;rw [this] at h2; cases h2
  ·have hx : lexX false w 1 1 = .ok [⟨k, w, l, c⟩] := h;rw [hx] at hl;have ht := qcn9 b r _ _ h2 h1 h3 _ _ hl.symm;have e := ht.2.1;simp only [Tk.mk.injEq] at e;have hlen := congrArg List.length e.2.1;have hdl := congrArg List.length hd;rw [l'z] at hdl;rw [l'x] at hlen;have hp := wG0 ht.1;have hle := qaj9 (b :: r);have h0 : gapS false w = 0 := by
    have hwp : 0 < w.length := n'm.mpr hw;omega
   rw [h0, List.drop_zero] at hd;have e1 := e.1;have hwl : w.length = (b :: r).length := congrArg List.length hd;have : (tokS (b :: r)).2.1 = (b :: r).length := by omega
   rw [hd, ← this, e1, ← ht.1]
 ·intro h;exact ⟨1, 1, kcn9 h 1 1⟩
def srtB (l : List (List UInt8)) : List (List UInt8) := l.mergeSort fun x y => decide (x ≤ y)
theorem wbi9 (l : List (List UInt8)) : (srtB l).Perm l := List.mergeSort_perm ..
theorem wO0 (l : List (List UInt8)) : (srtB l).length = l.length := (wbi9 l).length_eq
theorem zdr9 (l : List (List UInt8)) : (srtB l).Pairwise fun x y => x ≤ y := by
 have := List.pairwise_mergeSort (le := fun x y : List UInt8 => decide (x ≤ y)) (fun a b c h1 h2 => by
  simp only [decide_eq_true_eq] at *;exact List.le_trans h1 h2) (fun a b => by
  simp only [l's, decide_eq_true_eq];exact List.le_total a b) l
 exact this.imp fun h => by simpa using h
theorem zbT9 (l : List (List UInt8)) : (Lib.compact (srtB l)).length < l.length ↔ ¬ l.Nodup := by
 have hlen := wO0 l;have hpw := zdr9 l;have hnd : (srtB l).Nodup ↔ l.Nodup := (wbi9 l).nodup_iff;generalize srtB l = M at *;rw [← hnd, ← hlen];have hget : ∀ j, j < M.length → M.toArray[j]! = M.getD j [] := fun j hj => by simp [hj]
 constructor
 ·intro h hn;have := Lib.compact_all M fun j hj => by
   rcases n'g j with rfl|h0
   ·simp [Lib.keeps]
   ·apply Lib.keeps_pos;rw [hget j hj, hget (j - 1) (by omega)];intro e;have h1 : j - 1 < M.length := by omega
    rw [l'b, l'b, l'e hj, l'e h1] at e;have := (z'n hn).1 e;omega
  rw [this] at h;omega
 ·intro h;obtain ⟨i, j, hij, hj, e⟩ : ∃ i j, i < j ∧ ∃ hj : j < M.length, M.getD i [] = M.getD j [] := by
   apply n'V;intro hno;refine h (n'W.2 fun i j hi hj hij e => hno ⟨i, j, hij, hj, ?_⟩);rw [l'b, l'b, l'e hj, l'e hi, e]
  have hk : Lib.keeps M.toArray j = false := by
   apply Lib.keeps_neg (by omega);rw [hget j hj, hget (j - 1) (by omega)];have h1 : j - 1 < M.length := by omega
   have hle : ∀ a b, a < b → b < M.length → M.getD a [] ≤ M.getD b [] := fun a b hab hb => by
    have := n'W.1 hpw a b (by omega) hb hab;rw [l'b, l'b, l'e hb, l'e (show a < M.length by omega)];exact this
   have h2 := hle (j - 1) j (by omega) hj;have h3 : M.getD j [] ≤ M.getD (j - 1) [] := by
    rw [← e];rcases Nat.eq_or_lt_of_le (show i ≤ j - 1 by omega) with q|q
    ·rw [q]; exact List.le_refl _
    ·exact hle i (j - 1) q h1
   exact (List.le_antisymm h2 h3).symm
  unfold Lib.compact Lib.compactUpTo;rw [l'B];have hlt : (List.filter (Lib.keeps M.toArray) (List.range M.length)).length < (List.range M.length).length := by
   rw [List.length_filter_lt_length_iff_exists];exact ⟨j, l'U.2 hj, by simp [hk]⟩
  simpa using hlt
theorem zaM9 (l : List (List UInt8)) : (Lib.compact (srtB l)).length ≤ l.length := by
 unfold Lib.compact Lib.compactUpTo;rw [l'B];refine n'a (List.length_filter_le ..) ?_;rw [z'h, wO0]; exact l'd _
theorem qbu9 : ∀ (s : Bs) (l c : Int), (∀ j : Nat, s[j]? ≠ some (10 : UInt8)) → posT l c s = (l, c + s.length)
 | [], l, c, _ => by simp [posT]
 | b :: r, l, c, h => by
  have h0 := h 0;simp only [List.getElem?_cons_zero, ne_eq, Option.some.injEq] at h0;rw [posT, if_neg h0, qbu9 r l (c + 1) fun j => by have := h (j + 1); rwa [List.getElem?_cons_succ] at this];simp only [List.length_cons, Int.natCast_add, Int.natCast_one, Prod.mk.injEq, true_and]; omega
theorem xco9 : ∀ (s : Bs) (l c : Int) (k : Nat), s[k]? = some 10 → (∀ j : Nat, k < j → s[j]? ≠ some (10 : UInt8)) → posT l c s = (l + ((s.count 10 : Nat) : Int), 1 + (((s.drop (k + 1)).length : Nat) : Int))
 | [], l, c, k, h, _ => by simp at h
 | b :: r, l, c, 0, h, hl => by
  simp only [List.getElem?_cons_zero, Option.some.injEq] at h;subst h;have hn : ∀ j : Nat, r[j]? ≠ some (10 : UInt8) := fun j => by have := hl (j + 1) (by omega); rwa [List.getElem?_cons_succ] at this
  rw [posT, if_pos rfl, qbu9 r _ _ hn, List.count_cons_self, List.drop_succ_cons, List.drop_zero];have : r.count 10 = 0 := List.count_eq_zero.mpr fun q => by
   obtain ⟨j, hj, e⟩ := n'F q;exact hn j (by rw [l'e hj, e])
  rw [this]; simp
 | b :: r, l, c, k + 1, h, hl => by
  rw [List.getElem?_cons_succ] at h;have ih := fun l c => xco9 r l c k h fun j hj => by have := hl (j + 1) (by omega); rwa [List.getElem?_cons_succ] at this
  rw [posT, List.drop_succ_cons, List.count_cons];split
  ·rename_i e; rw [ih, e]; simp only [beq_self_eq_true, if_true, Prod.mk.injEq, and_true]; omega
  ·rename_i e; rw [ih]; simp [e]
theorem qbF9 : ∀ (s : Bs), (∀ j : Nat, s[j]? ≠ some (10 : UInt8)) → gapS true s = s.length
 | [], _ => rfl
 | b :: r, h => by
  have h0 := h 0;simp only [List.getElem?_cons_zero, ne_eq, Option.some.injEq] at h0;rw [gapS, if_neg h0, qbF9 r fun j => by have := h (j + 1); rwa [List.getElem?_cons_succ] at this];simp only [List.length_cons]; omega
theorem zbF9 : ∀ (s : Bs) (k : Nat), s[k]? = some 10 → (∀ j : Nat, j < k → s[j]? ≠ some (10 : UInt8)) → gapS true s = k + gapS false (s.drop k)
 | [], k, h, _ => by simp at h
 | b :: r, 0, h, _ => by
  simp only [List.getElem?_cons_zero, Option.some.injEq] at h;subst h;rw [gapS, if_pos rfl, List.drop_zero, gapS]; simp
 | b :: r, k + 1, h, hl => by
  have h0 := hl 0 (by omega);simp only [List.getElem?_cons_zero, ne_eq, Option.some.injEq] at h0;rw [List.getElem?_cons_succ] at h;rw [gapS, if_neg h0, List.drop_succ_cons, zbF9 r k h fun j hj => by have := hl (j + 1) (by omega); rwa [List.getElem?_cons_succ] at this];omega
theorem vcP9 (r : Bs) : gapS false (35 :: r) = gapS true (35 :: r) := by
 rw [gapS, gapS];have : ¬ (blkB 35 = true ∨ (35 : UInt8) = 10) := by decide
 rw [if_neg this, if_pos rfl, if_neg (by decide)]
theorem wco9 (s : Bs) (n : Nat) (b : UInt8) (hn : s[n]? = some b) (hb : blkB b = true ∨ b = 10) (h : gapS false s = n + gapS false (s.drop n)) : gapS false s = (n + 1) + gapS false (s.drop (n + 1)) := by
 have hlt : n < s.length := by
  rcases l'h n s.length with q|q
  ·exact q
  ·rw [l'p q] at hn; cases hn
 have e : s.drop n = b :: s.drop (n + 1) := by
  rw [l'K hlt];rw [l'e hlt] at hn;rw [Option.some.inj hn]
 rw [e, gapS, if_pos hb] at h;omega
theorem xdr9 (s : Bs) (n : Nat) (hn : s[n]? = some 35) (h : gapS false s = n + gapS false (s.drop n)) :
  ((∀ j : Nat, (s.drop n)[j]? ≠ some (10 : UInt8)) → gapS false s = s.length) ∧
  (∀ k, (s.drop n)[k]? = some 10 → (∀ j : Nat, j < k → (s.drop n)[j]? ≠ some (10 : UInt8)) → gapS false s = (n + k) + gapS false (s.drop (n + k))) := by
 have hlt : n < s.length := by
  rcases l'h n s.length with q|q
  ·exact q
  ·rw [l'p q] at hn; cases hn
 have e : s.drop n = 35 :: s.drop (n + 1) := by
  rw [l'K hlt];rw [l'e hlt] at hn;rw [Option.some.inj hn]
 have hg : gapS false (s.drop n) = gapS true (s.drop n) := by rw [e]; exact vcP9 _
 rw [hg] at h;refine ⟨fun hj => ?_, fun k hk hj => ?_⟩
 ·rw [h, qbF9 _ hj, l'z]; omega
 ·rw [h, zbF9 _ k hk hj, n'p]; omega
theorem kcP9 (s : Bs) (n : Nat) (b : UInt8) (hn : s[n]? = some b) (h1 : ¬ blkB b = true) (h2 : ¬ b = 10) (h3 : ¬ b = 35) (h : gapS false s = n + gapS false (s.drop n)) : gapS false s = n := by
 have hlt : n < s.length := by
  rcases l'h n s.length with q|q
  ·exact q
  ·rw [l'p q] at hn; cases hn
 have e : s.drop n = b :: s.drop (n + 1) := by
  rw [l'K hlt];rw [l'e hlt] at hn;rw [Option.some.inj hn]
 rw [e, gapS, if_neg (by simp [h1, h2]), if_neg h3] at h;omega
theorem qan9 (w : Bs) (h : letB (w.headD 0) = true) : zB0 w = if w.length ≤ 16 then (1, 0) else (0, 10) := by
 unfold zB0; rw [if_pos h]
theorem xbT9 : zB0 [48] = (2, 0) := by decide
theorem vco9 (w : Bs) (h : ¬ letB (w.headD 0) = true) (h2 : ¬ w = [48]) (h3 : w ≠ []) (hb : w.headD 0 = 48 ∨ 9 < w.length ∨ ¬ w.all digB = true) : zB0 w = (0, 4) := by
 unfold zB0;rw [if_neg h, if_neg];rintro ⟨q1, q2, q3⟩;rcases hb with q|q|q
 ·match w, h3 with
  | [a], _ => simp only [List.headD_cons] at q; subst q; exact h2 rfl
  | a :: b :: r, _ => exact q3 ⟨by simp, q⟩
 ·omega
 ·exact q q1
theorem kco9 (w : Bs) (h : ¬ letB (w.headD 0) = true) (h0 : ¬ w.headD 0 = 48) (h1 : w.length ≤ 9) (h2 : w.all digB = true) : zB0 w = (2, 0) := by
 unfold zB0;rw [if_neg h, if_pos ⟨h2, h1, fun q => h0 q.2⟩]
theorem qcp9 (w : Bs) (h : ¬ letB (w.headD 0) = true) : zB0 w = if w.all digB = true then (if 9 < w.length ∨ (1 < w.length ∧ w.headD 0 = 48) then (0, 4) else (2, 0)) else (0, 4) := by
 unfold zB0;rw [if_neg h];by_cases a : w.all digB = true
 ·rw [if_pos a];by_cases b : 9 < w.length ∨ (1 < w.length ∧ w.headD 0 = 48)
  ·rw [if_pos b, if_neg];rintro ⟨_, q2, q3⟩;rcases b with b|b
   ·omega
   ·exact q3 b
  ·rw [if_neg b, if_pos ⟨a, by omega, fun q => b (.inr q)⟩]
 ·rw [if_neg a, if_neg fun q => a q.1]
theorem xbF9 (s : Bs) (n : Nat) (h : n < (wordS s).length) : ∃ b, s[n]? = some b ∧ wrdB b = true := by
 have e := wo0 s;have hl : (wordS s).length ≤ s.length := by have := congrArg List.length e; rw [l'x] at this; omega
 refine ⟨s[n]'(by omega), l'e _, ?_⟩;apply qaA9 s;have : (wordS s)[n]'h = s[n]'(by omega) := by
  have h2 : n < (s.take (wordS s).length).length := by rw [l'x]; omega
  have : (s.take (wordS s).length)[n]'h2 = s[n]'(by omega) := List.getElem_take;rw [← this]; congr 1; exact e.symm
 rw [← this]; exact n'z h
theorem zaA9 : ∀ (s : Bs), s[(wordS s).length]? = none ∨ ∃ b, s[(wordS s).length]? = some b ∧ wrdB b = false
 | [] => .inl rfl
 | a :: r => by
  unfold wordS;rw [List.takeWhile_cons];split
  ·rw [List.length_cons, List.getElem?_cons_succ]; exact zaA9 r
  ·rename_i h; right; exact ⟨a, rfl, by simpa using h⟩
theorem wbF9 (s : Bs) : (wordS s).length ≤ s.length := by
 have := congrArg List.length (wo0 s); rw [l'x] at this; omega
theorem vab9 (s : Bs) : wordS s = [] ↔ wrdB (s.headD 0) = false := by
 cases s with
 | nil => exact ⟨fun _ => by decide, fun _ => rfl⟩
 | cons a r =>
  unfold wordS;rw [List.takeWhile_cons, List.headD_cons];split
  ·rename_i h; simp [h]
  ·rename_i h; simpa using h
theorem vbi9 (s : Bs) (h : wordS s ≠ []) : tokS s = ((zB0 (wordS s)).1, (wordS s).length, (zB0 (wordS s)).2) := by
 have : wrdB (s.headD 0) = true := by
  cases q : wrdB (s.headD 0)
  ·exact absurd ((vab9 s).2 q) h
  ·rfl
 unfold tokS; rw [if_pos this]
theorem xaA9 (s : Bs) (h : wordS s = []) : tokS s = if zm0 s = 0 then (0, 0, 4) else (3, zm0 s, 0) := by
 unfold tokS; rw [if_neg (by rw [(vab9 s).1 h]; decide)]
def jn : List Bs → Bs
 | [] => []
 | [p] => p
 | p :: q :: r => p ++ 32 :: jn (q :: r)
def kts (l : List Tk) : List (Int × Bs) := l.map fun t => (t.k, t.t)
def chkT (k : Int) (w : Bs) : Int := if tokS w = (k, w.length, 0) ∧ w ≠ [] then 0 else 1
theorem qL0 (k : Int) (w : Bs) : chkT k w = 0 ↔ qk0 k w := by
 unfold chkT qk0;split
 ·rename_i h; exact ⟨fun _ => h, fun _ => rfl⟩
 ·rename_i h; exact ⟨fun q => absurd q (by decide), fun q => absurd q h⟩
theorem zcp9 (k : Int) (w : Bs) (h : (tokS w).2.2 ≠ 0 ∨ w.take (tokS w).2.1 ≠ w ∨ (tokS w).1 ≠ k) : chkT k w = 1 := by
 unfold chkT;rw [if_neg];rintro ⟨q, _⟩;rw [q] at h;simp only [ne_eq, not_true_eq_false, l'E, or_self] at h
theorem wdr9 (k : Int) (w : Bs) (hw : w ≠ []) (h1 : (tokS w).2.2 = 0) (h2 : w.take (tokS w).2.1 = w) (h3 : (tokS w).1 = k) : chkT k w = 0 := by
 unfold chkT;rw [if_pos];refine ⟨?_, hw⟩;have hl := congrArg List.length h2;rw [l'x] at hl;have := qaj9 w;have e : (tokS w).2.1 = w.length := by omega
 rw [← h3, ← h1, ← e]
theorem vbF9 (k : Int) : chkT k [] = 1 := by unfold chkT; rw [if_neg]; simp
end Go.Proofs
namespace Go.Proofs
open Go Go.V
set_option linter.unusedVariables false
set_option linter.unusedSimpArgs false
set_option maxRecDepth 100000
def splitC (c : UInt8) : Bs → List Bs
 | [] => [[]]
 | b :: r => if b = c then [] :: splitC c r else match splitC c r with|[] => [[b]]|p :: l => (b :: p) :: l
theorem zL0 (c : UInt8) (s : Bs) : splitC c s ≠ [] := by
 cases s with
 | nil => simp [splitC]
 | cons b r =>
  rw [splitC];split
  ·simp
  ·split <;> simp
theorem xaj9 (c : UInt8) (r : Bs) : splitC c (c :: r) = [] :: splitC c r := by rw [splitC, if_pos rfl]
theorem xV0 {c b : UInt8} (h : ¬ b = c) {r p : Bs} {l : List Bs} (q : splitC c r = p :: l) : splitC c (b :: r) = (b :: p) :: l := by rw [splitC, if_neg h, q]
theorem waA9 (c : UInt8) : ∀ s : Bs, ∀ p ∈ splitC c s, ¬ c ∈ p
 | [], p, hp => by simp [splitC] at hp; subst hp; simp
 | b :: r, p, hp => by
  have ih := waA9 c r;by_cases h : b = c
  ·subst h;rw [xaj9] at hp;rcases l'w.1 hp with rfl|hp
   ·simp
   ·exact ih p hp
  ·obtain ⟨q, l, e⟩ := List.exists_cons_of_ne_nil (zL0 c r);rw [xV0 h e] at hp;rw [e] at ih;rcases l'w.1 hp with rfl|hp
   ·intro hc;rcases l'w.1 hc with rfl|hc
    ·exact h rfl
    ·exact ih q l'm hc
   ·exact ih p (l'v _ hp)
theorem xcp9 (b : UInt8) (p : Bs) (l : List Bs) (sep : Bs) : Lib.join ((b :: p) :: l) sep = b :: Lib.join (p :: l) sep := by
 cases l with
 | nil => rw [join_one, join_one]
 | cons q l => rw [qt0, qt0]; rfl
theorem vaA9 (c : UInt8) : ∀ s : Bs, Lib.join (splitC c s) [c] = s
 | [] => by rw [splitC, join_one]
 | b :: r => by
  have ih := vaA9 c r;obtain ⟨q, l, e⟩ := List.exists_cons_of_ne_nil (zL0 c r);by_cases h : b = c
  ·subst h;rw [xaj9];rw [e] at ih ⊢;rw [qt0, ih]; rfl
  ·rw [xV0 h e, xcp9, ← e, ih]
theorem qcQ9 (c : UInt8) (s : Bs) : kv0 s [c] = splitC c s := by
 have h := kaL9 (sep := [c]) (q := 0) (c := c) ⟨rfl, fun k h => by omega⟩ (splitC c s) (zL0 c s) (waA9 c s);rw [vaA9] at h;exact h
end Go.Proofs
