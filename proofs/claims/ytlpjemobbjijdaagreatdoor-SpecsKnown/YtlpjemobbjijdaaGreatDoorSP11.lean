import Derived.Test.YtlpjemobbjijdaaGreatDoorSP8
import Derived.Test.YtlpjemobbjijdaaGreatDoorS49
import Derived.Test.YtlpjemobbjijdaaGreatDoorS44
import Derived.Test.YtlpjemobbjijdaaGreatDoorS28
import Derived.Test.YtlpjemobbjijdaaGreatDoorS27
namespace Go.Proofs
open Go Go.V
set_option linter.unusedVariables false
set_option linter.unusedSimpArgs false
def gapsB : List Bs := [[], [10, 10], [32, 9], [35, 32, 97, 32, 114, 101, 109, 97, 114, 107, 59, 32, 109, 97, 99, 104, 105, 110, 101, 32, 101, 110, 100, 10], [13, 10, 32, 32]]
theorem xaX9 {g : Bs} (hg : g ∈ gapsB) : ∀ s ks, Lx s ks → Lx (g ++ s) ks := fun s ks h => by
 simp only [gapsB, l'w, l'J, or_false] at hg;rcases hg with rfl|rfl|rfl|rfl|rfl
 ·exact h
 ·exact kbV9 (kbV9 h)
 ·exact xae9 32 (by decide) (xae9 9 (by decide) h)
 ·exact qdP9 [32, 97, 32, 114, 101, 109, 97, 114, 107, 59, 32, 109, 97, 99, 104, 105, 110, 101, 32, 101, 110, 100] (by decide) h
 ·exact xae9 13 (by decide) (kbV9 (xae9 32 (by decide) (xae9 32 (by decide) h)))
theorem wcX9 {g : Bs} (hg : g ∈ gapsB) (s : Bs) : ∃ b r, g ++ 59 :: s = b :: r ∧ wrdB b = false := by
 simp only [gapsB, l'w, l'J, or_false] at hg;rcases hg with rfl|rfl|rfl|rfl|rfl <;> exact ⟨_, _, rfl, by decide⟩
theorem vcX9 {g : Bs} (hg : g ∈ gapsB) : g.length ≤ 24 := by
 simp only [gapsB, l'w, l'J, or_false] at hg;rcases hg with rfl|rfl|rfl|rfl|rfl <;> decide
def pkO (o : List Nat) (k m : Nat) : Nat := if k < o.length then o.getD k 0 % m else 0
theorem vcz9 (o : List Nat) (k : Nat) {m : Nat} (h : 0 < m) : pkO o k m < m := by
 unfold pkO; split
 ·exact n'u _ h
 ·exact h
def stO {α : Type} (o : List Nat) (L : List α) : Nat → List α × List α
 | 0 => ([], L)
 | k + 1 => ((stO o L k).1 ++ ((stO o L k).2.drop (pkO o k (stO o L k).2.length)).take 1, (stO o L k).2.take (pkO o k (stO o L k).2.length) ++ (stO o L k).2.drop (pkO o k (stO o L k).2.length + 1))
theorem waX9 {α : Type} (o : List Nat) (L : List α) : ∀ k, k ≤ L.length → (stO o L k).2.length = L.length - k
 | 0, _ => rfl
 | k + 1, h => by
  have ih := waX9 o L k (by omega);have hp := vcz9 o k (m := (stO o L k).2.length) (by omega);simp only [stO, l'i, l'x, l'z];omega
theorem kcz9 {α β : Type} (o : List Nat) (f : α → β) (L : List α) : ∀ k, stO o (L.map f) k = ((stO o L k).1.map f, (stO o L k).2.map f)
 | 0 => rfl
 | k + 1 => by
  simp only [stO, kcz9 o f L k, l'B, n'c, List.map_take, List.map_drop]
theorem vaX9 {α : Type} (o : List Nat) (L : List α) : ∀ k, ((stO o L k).1 ++ (stO o L k).2).Perm L
 | 0 => List.Perm.refl _
 | k + 1 => by
  refine List.Perm.trans ?_ (vaX9 o L k);simp only [stO];generalize (stO o L k).1 = d;generalize (stO o L k).2 = r;generalize pkO o k r.length = n;rw [l't];refine List.Perm.append_left d ?_;have e : r = r.take n ++ ((r.drop n).take 1 ++ r.drop (n + 1)) := by
   have : (r.drop n).take 1 ++ r.drop (n + 1) = r.drop n := by
    rw [← n'p, n'x]
   rw [this, n'x]
  rw [← l't];refine List.Perm.trans ((List.perm_append_comm).append_right _) ?_;rw [l't, ← e]
theorem qdA9 {α : Type} (o : List Nat) (L : List α) : ((stO o L L.length).1).Perm L := by
 have h := vaX9 o L L.length;have hl := waX9 o L L.length (l'd _);rw [l'N] at hl;rw [List.length_eq_zero_iff.1 hl, l'F] at h;exact h
theorem zdA9 (o : List Nat) (L : List Bs) (k : Nat) (h : k < L.length) : (stO o L (k + 1)).1 = (stO o L k).1 ++ [(stO o L k).2.getD (pkO o k (stO o L k).2.length) []] := by
 have hl := waX9 o L k (by omega);have hp := vcz9 o k (m := (stO o L k).2.length) (by omega);simp only [stO];generalize (stO o L k).2 = r at *;generalize pkO o k r.length = n at *;rw [l'K hp, l'b, l'e hp]; rfl
def txO (o : List Nat) (g T : Bs) (L : List Bs) (k : Nat) : Bs := T ++ (stO o L k).1.flatMap fun w => w ++ g
theorem zbK9 (o : List Nat) (g T : Bs) (L : List Bs) : txO o g T L 0 = T := by simp [txO, stO]
theorem kcX9 (o : List Nat) (g T : Bs) (L : List Bs) (k : Nat) (h : k < L.length) : txO o g T L (k + 1) = txO o g T L k ++ ((stO o L k).2.getD (pkO o k (stO o L k).2.length) [] ++ g) := by
 simp only [txO, zdA9 o L k h, n'G, l't, n'E, List.flatMap_nil, l'F]
theorem qcA9 {m n : Nat} : ∀ (l : List Bs) (g : Bs), (∀ w ∈ l, w.length ≤ m) → g.length ≤ n → (l.flatMap fun w => w ++ g).length ≤ l.length * (m + n)
 | [], _, _, _ => by simp
 | w :: l, g, h, hg => by
  have a := qcA9 l g (fun v hv => h v (l'v _ hv)) hg;have b := h w l'm;rw [n'E, l'i, l'i, List.length_cons, l'S];omega
theorem wdP9 (o : List Nat) {g T : Bs} (L : List Bs) {m n : Nat} (hL : ∀ w ∈ L, w.length ≤ m) (hg : g.length ≤ n) (k : Nat) : (txO o g T L k).length ≤ T.length + L.length * (m + n) := by
 have hp := vaX9 o L k;have hl := hp.length_eq;rw [l'i] at hl;have := qcA9 (stO o L k).1 g (fun w hw => hL w (hp.mem_iff.1 (n's _ hw))) hg;have h2 : (stO o L k).1.length * (m + n) ≤ L.length * (m + n) := l'A _ (by omega);rw [txO, l'i]; omega
theorem xbK9 (x : GS) : linesL x x.rows.length = (allQ' x).map (edT x) := by
 unfold linesL allQ';rw [List.map_flatMap];refine congrArg (fun f => (List.range x.rows.length).flatMap f) (funext fun s => ?_);unfold kao9 rowQ;rw [List.map_flatMap];refine congrArg (fun f => (List.range (x.row s).length).flatMap f) (funext fun i => ?_);unfold edL eLn;split
 ·rfl
 ·simp [edT]
theorem zcA9 {x : GS} (hv : x.V) : ∀ w ∈ linesL x x.rows.length, w.length ≤ 104 := fun w hw => by
 unfold linesL kao9 at hw;simp only [List.mem_flatMap] at hw;obtain ⟨s, _, i, _, h⟩ := hw;unfold edL at h;split at h
 ·cases h
 ·rw [n'h.1 h]; exact xcu9 hv _ _ _
theorem xbz9 {x : GS} (hv : x.V) {g : Bs} (hg : g ∈ gapsB) (o : List Nat) : ∀ T : Bs, T = txO o g (g ++ zn0 x) (linesL x x.rows.length) (linesL x x.rows.length).length ++ ([101, 110, 100] ++ g ++ [59] ++ g) → T.length ≤ 65536 →
  ∃ ts, ofS T = (ts, 0, 0, 0) ∧ xh0 ts = .ok ⟨x.nm, x.ins, x.outs, x.sts, edgesOf x.rows⟩ := by
 rintro T hT hl;have hE := qdA9 o (allQ' x);have h0 : Lx (g ++ []) [] := xaX9 hg _ _ vbI9;have h1 : Lx (kEnd ++ (g ++ 59 :: (g ++ []))) ((1, kEnd) :: (3, [59]) :: []) := zaD9 vbl9 (.inr (wcX9 hg _)) (xaX9 hg _ _ (xaD9 59 (.inl rfl) h0));have h2 := xaX9 hg _ _ (wby9 hv (zaX9 hv g (xaX9 hg) (stO o (allQ' x) (allQ' x).length).1 (fun q hq => qaE9 hv q (hE.mem_iff.1 hq)) _ _ h1));have h3 : Lx T (hdK x ++ ((stO o (allQ' x) (allQ' x).length).1.flatMap (edK x) ++ [(1, kEnd), (3, [59])])) := by
  have e : T = g ++ (zn0 x ++ ((stO o (allQ' x) (allQ' x).length).1.flatMap (fun q => edT x q ++ g) ++ (kEnd ++ (g ++ 59 :: (g ++ []))))) := by
   rw [hT, txO, xbK9, kcz9, l'B];simp only [List.flatMap_map, l't, l'F, kEnd]; rfl
  rw [e]; exact h2
 obtain ⟨ts, t1, t2⟩ := h3 1 1;refine ⟨ts, ?_, ?_⟩
 ·unfold ofS;rw [if_neg (by omega), t1]; rfl
 ·rw [waO9 hv _ (fun q hq => qaE9 hv q (hE.mem_iff.1 hq)) (((hE.map _).nodup_iff).2 (kaD9 x)) t2, qbK9 hv hE]
def hE (x : GS) : Nat := 0 + 1 + 1 + 1 + 1 + 2 * x.ins.length + 1 + 2 * x.outs.length + 1 + 2 * x.sts.length
theorem kbl9 {ts : List Tk} {x : GS} (hv : x.V) {K : List (Int × Bs)} (h : kts ts = hdK x ++ K) : kx0 ts = .ok x.nm ∧ ko0 ts = .ok (x.ins, x.outs, x.sts, hE x) ∧ Dr ts (hE x) K ∧ ts.length = hE x + K.length := by
 have m := kE0 hv.m;have c1 := hv.ci;have c2 := hv.co;have c3 := hv.cs;have e1 : x.ins ≠ [] := fun e => by rw [e] at c1; simp at c1; omega
 have e2 : x.outs ≠ [] := fun e => by rw [e] at c2; simp at c2; omega
 have e3 : x.sts ≠ [] := fun e => by rw [e] at c3; simp at c3; omega
 have hlen : ts.length = (hdK x ++ K).length := by rw [← h]; simp [kts]
 have l1 := vW0 _ e1;have l2 := vW0 _ e2;have l3 := vW0 _ e3;simp only [hdK, l'i, List.length_cons, List.length_nil, l1, l2, l3] at hlen;have D0 : Dr ts 0 ((1, kMac) :: (1, x.nm) :: (3, [59]) :: (1, kIns) :: (cmT x.ins ++ (3, [59]) :: (1, kk0) :: (cmT x.outs ++ (3, [59]) :: (1, kSts) :: (cmT x.sts ++ (3, [59]) :: K)))) := by
  show (kts ts).drop 0 = _;rw [h]; simp [hdK]
 have D1 := (qi0 D0).2.2.2;have D2 := (qi0 D1).2.2.2;have D3 := (qi0 D2).2.2.2;have n0 := hv.nm [x.nm] (by simp [GS.lists]) _ l'm;have hh : kx0 ts = .ok x.nm := by
  unfold kx0;rw [wD0 D0]; simp only [PE.bind];rw [waD9 D1 n0]; simp only;rw [wD0 D2]
 obtain ⟨g1, D4⟩ := zQ0 (most := 16) D3 e1 (hv.nm x.ins (by simp [GS.lists])) (hv.nd x.ins (by simp [GS.lists])) (by omega) (by omega);obtain ⟨g2, D5⟩ := zQ0 (most := 16) D4 e2 (hv.nm x.outs (by simp [GS.lists])) (hv.nd x.outs (by simp [GS.lists])) (by omega) (by omega);obtain ⟨g3, D6⟩ := zQ0 (most := 64) D5 e3 (hv.nm x.sts (by simp [GS.lists])) (hv.nd x.sts (by simp [GS.lists])) (by omega) (by omega);refine ⟨hh, ?_, D6, ?_⟩
 ·unfold ko0;rw [show (3 : Nat) = 0 + 1 + 1 + 1 from rfl, g1]; simp only [PE.bind];rw [g2]; simp only;rw [g3]; rfl
 ·unfold hE; omega
theorem wbz9 {ts : List Tk} {x : GS} (hv : x.V) {q : Qd} (hq : QOk x q) (h : kts ts = hdK x ++ (edK x q ++ (edK x q ++ []))) : xh0 ts = .no (hE x + 7) 8 := by
 obtain ⟨g1, g2, D, hl⟩ := kbl9 hv h;obtain ⟨e1, D1, e2⟩ := kby9 hv hq D;obtain ⟨f1, _, f2⟩ := kby9 hv hq D1;have hf : ∃ f, ts.length = f + 1 := ⟨ts.length - 1, by simp [edK] at hl; omega⟩;obtain ⟨f, hf⟩ := hf;have hR0 := waM9 x.sts.length x.ins.length;have h0 : (getE (List.replicate x.sts.length (row0 x.ins.length)) q.1 q.2.1).1 = -1 := by
  simp [getE, row0, hq.1, hq.2.1]
 have h1 := wbl9 hR0 hq.1 hq.2.1 ((q.2.2.2 : Int), (q.2.2.1 : Int));unfold xh0;rw [g1]; simp only [PE.bind];rw [g2]; simp only;rw [hf, kj0, if_neg (by rw [e2]; decide), e1];simp only [PE.bind];rw [if_pos h0, kj0, if_neg (by rw [f2]; decide), f1];simp only [PE.bind];rw [h1, if_neg (by simp only; omega)]
theorem qcY9 {s : Bs} (h : qk0 1 s) : c10 s = 0 := by
 refine waU9 s fun b hb => zO0 s b ?_;rw [h.1]; simp only;rw [l'E]; exact hb
theorem kae9 (sep : Bs) (hs : c10 sep = 0) : ∀ l : List Bs, (∀ w ∈ l, c10 w = 0) → c10 (Lib.join l sep) = 0
 | [], _ => by rw [Lib.join_nil]; rfl
 | [a], h => by rw [Lib.join_one]; exact h a l'm
 | a :: b :: r, h => by
  rw [kbI9, zD0, zD0, hs, h a l'm, kae9 sep hs (b :: r) fun w hw => h w (l'v _ hw)]
theorem xcA9 {l : List Bs} (h : ∀ w ∈ l, c10 w = 0) : c10 (lnL l) = 1 := by
 rw [lnL, zD0, kae9 [32] rfl l h]; rfl
theorem zcY9 (x : GS) (q : Qd) : ∃ r, edT x q = r ++ [10] := ⟨Lib.join [x.sts.getD q.1 [], x.ins.getD q.2.1 [], [47], x.outs.getD q.2.2.1 [], [45, 62], x.sts.getD q.2.2.2 []] [32] ++ [59], by simp [edT, lnL]⟩
theorem xcY9 {x : GS} (hv : x.V) {q : Qd} (hq : QOk x q) (l c : Int) : ∃ t ts, lexR (edT x q) l c = .ok (t :: ts) ∧ t.l = l ∧ t.c = c ∧ kts (t :: ts) = edK x q := by
 have n1 := ku0 (hv.nm x.sts (by simp [GS.lists]) _ (ze0 [] hq.1));obtain ⟨ts, h1, h2⟩ := xby9 hv hq (s := []) (ks := []) vbI9 l c;rw [l'F] at h1 h2;have e : ∃ r, edT x q = x.sts.getD q.1 [] ++ 32 :: r := ⟨x.ins.getD q.2.1 [] ++ 32 :: 47 :: 32 :: (x.outs.getD q.2.2.1 [] ++ 32 :: 45 :: 62 :: 32 :: (x.sts.getD q.2.2.2 [] ++ [59, 10])), by simp [edT, lnL, Lib.join_cons, Lib.joinTail]⟩;obtain ⟨r, e⟩ := e;have h3 := h1;rw [e, qco9 r n1] at h3;cases hr : lexR r l (c + (x.sts.getD q.1 []).length + 1) with
 | ok u =>
  rw [hr] at h3;simp only [LexR.cons, LexR.ok.injEq] at h3;subst h3;exact ⟨_, _, h1, rfl, rfl, h2⟩
 | err a b c => rw [hr] at h3; simp [LexR.cons] at h3
theorem zbW9 {x : GS} (hv : x.V) {q : Qd} (hq : QOk x q) : ∀ T : Bs, T = zn0 x ++ edT x q ++ edT x q → T.length ≤ 65536 → ∃ ts, ofS T = (ts, 0, 0, 0) ∧ xh0 ts = .no (hE x + 7) 8 ∧ locR ts (hE x + 7) = (6, 1) := by
 rintro T hT hl;have nmv : ∀ L ∈ x.lists, ∀ w ∈ L, c10 w = 0 := fun L hL w hw => qcY9 (ku0 (hv.nm L hL w hw));have b1 := nmv x.ins (by simp [GS.lists]);have b2 := nmv x.outs (by simp [GS.lists]);have b3 := nmv x.sts (by simp [GS.lists]);have b0 := nmv [x.nm] (by simp [GS.lists]) _ l'm;have two : ∀ a b : Bs, c10 a = 0 → c10 b = 0 → c10 (lnL [a, b]) = 1 := fun a b ha hb => xcA9 fun w hw => by
  simp only [l'w, l'J, or_false] at hw;rcases hw with rfl|rfl
  ·exact ha
  ·exact hb
 have hh : c10 (zn0 x) = 4 := by
  unfold zn0;rw [zD0, zD0, zD0, two kMac _ rfl b0, two kIns _ rfl (kae9 _ rfl _ b1), two kk0 _ rfl (kae9 _ rfl _ b2), two kSts _ rfl (kae9 _ rfl _ b3)]
 have he : c10 (edT x q) = 1 := xcA9 fun w hw => by
  simp only [l'w, l'J, or_false] at hw;rcases hw with rfl|rfl|rfl|rfl|rfl|rfl
  ·exact b3 _ (ze0 [] hq.1)
  ·exact b1 _ (ze0 [] hq.2.1)
  ·rfl
  ·exact b2 _ (ze0 [] hq.2.2.1)
  ·rfl
  ·exact b3 _ (ze0 [] hq.2.2.2)
 obtain ⟨r, hr⟩ := zcY9 x q;obtain ⟨ts1, g1, g2⟩ := wby9 hv (xby9 hv hq (s := []) (ks := []) vbI9) 1 1;rw [l'F] at g1;have e1 : zn0 x ++ edT x q = (zn0 x ++ r) ++ 10 :: [] := by rw [hr, l't]
 have e2 : T = (zn0 x ++ r) ++ 10 :: edT x q := by
  rw [hT, hr]; simp
 have hc : c10 (zn0 x ++ r) = 4 := by
  rw [hr, zD0] at he;have : c10 [10] = 1 := rfl;rw [zD0, hh]; omega
 rw [e1, xdc9, vG0] at g1;cases hR : lexR (zn0 x ++ r) 1 1 with
 | err a b c => rw [hR] at g1; simp [vaU9] at g1
 | ok u =>
  rw [hR] at g1;simp only [vaU9, LexR.app, l'F, LexR.ok.injEq] at g1;subst g1;obtain ⟨t, us, k1, k2, k3, k4⟩ := xcY9 hv hq 6 1;have hT2 : lexR T 1 1 = .ok (u ++ t :: us) := by
   rw [e2, xdc9, hR, hc];show vaU9 (.ok u) (lexR (edT x q) 6 1) = _;rw [k1]; rfl
  have hk : kts (u ++ t :: us) = hdK x ++ (edK x q ++ (edK x q ++ [])) := by
   rw [show kts (u ++ t :: us) = kts u ++ kts (t :: us) by simp [kts], g2, k4]; simp
  refine ⟨u ++ t :: us, ?_, wbz9 hv hq hk, ?_⟩
  ·unfold ofS;rw [if_neg (by omega), hT2]; rfl
  ·have hl := (kbl9 hv (K := edK x q ++ []) g2).2.2.2;have hlu : u.length = hE x + 7 := by rw [hl]; simp [edK]
   unfold locR;rw [if_pos (by simp only [l'i, List.length_cons]; omega), ← hlu];simp [k2, k3]
set_option maxHeartbeats 0
set_option maxRecDepth 100000
def z0 : GS := ⟨[], 0, 0, 0, [], some 0, 0, [], some 0, 0, [], some 0, 0, [], some 0⟩
theorem vdP9 : z0.Ok := ⟨.inl rfl, .inl rfl, .inl rfl, .inl rfl, n'b _, fun j hj => absurd hj (Nat.not_lt_zero _), n'b _, n'b _, n'b _, fun l hl s hs => by
 simp only [GS.lists, z0, l'w, l'J, or_false] at hl;rcases hl with rfl|rfl|rfl|rfl
 ·rw [n'h] at hs; rw [hs]; exact n'b _
 ·cases hs
 ·cases hs
 ·cases hs⟩
theorem xbW9 (x : GS) : qF0 x x = true := by unfold qF0; simp
theorem kaX9 (p : kai9) : wbU9 p = .agg (gsP p (some p.ins.length) (some p.ins.length) (some p.outs.length) (some p.sts.length) (some p.sts.length)).A := by
 unfold wbU9 GS.A gsP kb0;rw [z'l]; rfl
theorem wcY9 (p : kai9) : qbW9 p = .agg (gsP p none none none none none).A := by
 unfold qbW9 GS.A gsP kb0;rw [z'l]; rfl
theorem vcY9 (p : kai9) (k ci co cs cr k' ci' co' cs' cr' : Option Nat) : qF0 (gsP p k ci co cs cr) (gsP p k' ci' co' cs' cr') = true := by
 unfold qF0;rw [zF0, zF0];simp [GS.lists, gsP]
theorem law5 (s0 : Bs) (hs : s0.length ≤ maxLen) : PC Tryz.prog G0 5 [.str s0] (.bool true) := by
 by_cases hb : 4000 < s0.length
 ·have hbi : (4000 : Int) < s0.length := by omega
  refine wb0 0 58 [.tmp 2] Tryz.func5 rfl rfl rfl (by simp) ?_;intro s ⟨a0, hz⟩;clear hz;repeat' (first|refine nv ?_|(with_reducible first|refine gG ?_ ?_|refine ⟨fun h => ?_, fun h => ?_⟩ <;> try omega|refine andG ?_)|simp (disch := try exact discB) only [push_cast, simprocAttr, a0, hbi])
 ·have hbi : ¬ (4000 : Int) < s0.length := by omega
  obtain ⟨hlen, hgood⟩ := vH0 s0;have h22 := xD0 s0 (by omega) (by omega);have h24 := kdy9 s0 (by omega) (by omega);have hlv := vaV9;unfold vE0 at h22;unfold zcz9 at h24;generalize ofS s0 = R at *;obtain ⟨ts, l, cl, er⟩ := R;simp only at *;have hz23 := wM0 z0 z0 vdP9 vdP9;rw [xbW9] at hz23;by_cases her : er = 0
  ·subst her;rw [if_pos rfl] at h22 h24;cases hp : xh0 ts with
   | ok p =>
    rw [hp] at h22 h24;simp only at h22 h24;have hg := qal9 hgood hp (wae9 hp);rw [kaX9] at h22;rw [wcY9] at h24;have h23 := wM0 _ _ (qbl9 hg (some p.ins.length) (some p.ins.length) (some p.outs.length) (some p.sts.length) (some p.sts.length)) (qbl9 hg none none none none none);rw [vcY9] at h23;have h11 := wbV9 _ (qbl9 hg (some p.ins.length) (some p.ins.length) (some p.outs.length) (some p.sts.length) (some p.sts.length));rw [chkS_zero.2 (qcX9 hg _ _ _ _ _)] at h11;have i1 := fun q => vr0 q (gsP p (some p.ins.length) (some p.ins.length) (some p.outs.length) (some p.sts.length) (some p.sts.length));have i2 := fun q => vr0 q (gsP p none none none none none);generalize gsP p (some p.ins.length) (some p.ins.length) (some p.outs.length) (some p.sts.length) (some p.sts.length) = x at *;generalize gsP p none none none none none = y at *;unfold GS.A at *;refine wb0 0 58 [.tmp 2] Tryz.func5 rfl rfl rfl (by simp) ?_;intro s ⟨a0, hz⟩;clear hz;repeat' (first|refine nv ?_|(with_reducible first|refine gG ?_ ?_|refine ⟨fun h => ?_, fun h => ?_⟩ <;> try omega|refine andG ?_)|refine cp h22 ?_ (hi := by (simp [idsL, idsE, AV.ids, i1, i2]))|refine cp h24 ?_ (hi := by (simp [idsL, idsE, AV.ids, i1, i2]))|refine cp h23 ?_ (hi := by (simp [idsL, idsE, AV.ids, i1, i2]))|refine cp h11 ?_ (hi := by (simp [idsL, idsE, AV.ids, i1, i2]))|refine cp hlv ?_ (hi := by (simp [idsL, idsE, AV.ids, i1, i2]))|simp (disch := try exact discB) only [push_cast, simprocAttr, a0, hbi])
   | no k e =>
    rw [hp] at h22 h24;simp only at h22 h24;have he := (show e ≠ 0 by have := wde9 ts; rw [hp] at this; exact this.2);generalize (locR ts k).1 = u1 at *;generalize (locR ts k).2 = u2 at *;unfold zSpecA at *;rw [show z0.A = [.str [], .int .i64 0, .int .i64 0, .sl 0 [] (some 0), .sl 0 [] (some 0), .sl 0 [] (some 0), .sl 0 [] (some 0)] from rfl] at hz23;refine wb0 0 58 [.tmp 2] Tryz.func5 rfl rfl rfl (by simp) ?_;intro s ⟨a0, hz⟩;clear hz;repeat' (first|refine nv ?_|(with_reducible first|refine gG ?_ ?_|refine ⟨fun h => ?_, fun h => ?_⟩ <;> try omega|refine andG ?_)|refine cp h22 ?_|refine cp h24 ?_|refine cp hz23 ?_|refine cp hlv ?_|simp (disch := try exact discB) only [push_cast, simprocAttr, a0, hbi, he])
    refine ⟨.top, ?_⟩;repeat' (first|refine nv ?_|(with_reducible first|refine gG ?_ ?_|refine ⟨fun h => ?_, fun h => ?_⟩ <;> try omega|refine andG ?_)|refine cp h22 ?_|refine cp h24 ?_|refine cp hz23 ?_|refine cp hlv ?_|simp (disch := try exact discB) only [push_cast, simprocAttr, a0, hbi, he])
  ·rw [if_neg her] at h22 h24;unfold zSpecA at *;rw [show z0.A = [.str [], .int .i64 0, .int .i64 0, .sl 0 [] (some 0), .sl 0 [] (some 0), .sl 0 [] (some 0), .sl 0 [] (some 0)] from rfl] at hz23;refine wb0 0 58 [.tmp 2] Tryz.func5 rfl rfl rfl (by simp) ?_;intro s ⟨a0, hz⟩;clear hz;repeat' (first|refine nv ?_|(with_reducible first|refine gG ?_ ?_|refine ⟨fun h => ?_, fun h => ?_⟩ <;> try omega|refine andG ?_)|refine cp h22 ?_|refine cp h24 ?_|refine cp hz23 ?_|refine cp hlv ?_|simp (disch := try exact discB) only [push_cast, simprocAttr, a0, hbi, her])
   refine ⟨.top, ?_⟩;repeat' (first|refine nv ?_|(with_reducible first|refine gG ?_ ?_|refine ⟨fun h => ?_, fun h => ?_⟩ <;> try omega|refine andG ?_)|refine cp h22 ?_|refine cp h24 ?_|refine cp hz23 ?_|refine cp hlv ?_|simp (disch := try exact discB) only [push_cast, simprocAttr, a0, hbi, her])
def tokL : List Bs := [[109, 97, 99, 104, 105, 110, 101], [108, 97, 109, 112], [59], [105, 110, 112, 117, 116, 115], [112, 114, 101, 115, 115], [44], [116, 105, 99, 107], [59], [111, 117, 116, 112, 117, 116, 115], [111, 110], [44], [111, 102, 102], [59], [115, 116, 97, 116, 101, 115], [100, 97, 114, 107], [44], [108, 105, 116], [59], [100, 97, 114, 107], [112, 114, 101, 115, 115], [47], [111, 110], [45, 62], [108, 105, 116], [59], [108, 105, 116], [112, 114, 101, 115, 115], [47], [111, 102, 102], [45, 62], [100, 97, 114, 107], [59], [101, 110, 100], [59]]
theorem kcY9 : tokL.length = 34 := rfl
def cutT (k : Nat) : Bs := (tokL.take k).flatMap fun w => w ++ [32]
theorem qbm9 (k : Nat) (h : k < 34) : cutT (k + 1) = cutT k ++ (tokL.getD k [] ++ [32]) := by
 unfold cutT;rw [kaA9 tokL [] k h, n'G]; simp
theorem kde9 (k : Nat) : (tokL.getD k []).length ≤ 8 := by
 rcases l'h k 34 with h|h
 ·have : ∀ w ∈ tokL, w.length ≤ 8 := by decide
  exact this _ (ze0 [] h)
 ·rw [l'b, l'p h]; simp
theorem vbz9 : ∀ k, k ≤ 34 → (cutT k).length ≤ 9 * k
 | 0, _ => by simp [cutT]
 | k + 1, h => by
  have := vbz9 k (by omega);have := kde9 k;rw [qbm9 k (by omega)];simp only [l'i, List.length_cons, List.length_nil]; omega
def cutB (k : Nat) : Bool := decide ((ofS (cutT k)).2.2.2 = 0) && match xh0 (ofS (cutT k)).1 with
 | .no _ e => decide (e = 4)
 | .ok _ => false
theorem xdA9 : ((List.range 34).all cutB) = true := by kernel_rfl
theorem qcZ9 {k : Nat} (h : k < 34) : ∃ l c : Int, vE0 (cutT k) = .tup [zSpecA, .int .i64 l, .int .i64 c, .int .i64 4] := by
 have hb := l'j.1 xdA9 k (l'U.2 h);unfold cutB at hb;rw [l'a, decide_eq_true_eq] at hb;unfold vE0;rw [if_pos hb.1];cases hp : xh0 (ofS (cutT k)).1 with
 | ok p => rw [hp] at hb; exact absurd hb.2 Bool.false_ne_true
 | no i e =>
  rw [hp] at hb;obtain rfl : e = 4 := of_decide_eq_true hb.2;exact ⟨_, _, rfl⟩
def dB (d : Nat) : UInt8 := UInt8.ofNat (48 + d)
def letP : Bs := [97, 98, 99, 100, 101, 102, 103, 104, 105, 106, 107, 108, 109]
def let1 (i : Nat) : Bs := letP ++ ([dB ((100 + i) / 10 / 10)] ++ [dB ((100 + i) / 10 % 10)] ++ [dB ((100 + i) % 10)])
def letL (n : Nat) : List Bs := (List.range n).map let1
theorem zcZ9 (n : Nat) : (letL n).length = n := by simp [letL]
theorem wcA9 (n : Nat) : letL (n + 1) = letL n ++ [let1 n] := by simp [letL, n'j]
theorem qaY9 (i : Nat) : (let1 i).length = 16 := rfl
theorem wbK9 {n j : Nat} (h : j < n) : ((letL n).getD j []).length = 16 := by simp [letL, h, qaY9]
def grR (s i : Nat) : List Edg := (List.range i).map fun (i : Nat) => ((s : Int), (i : Int))
def grL (s : Nat) : List Row := (List.range s).map fun s => (grR s 16, none)
def grG : GS := ⟨[109], 16, 16, 1, grL 64, none, 1, letL 16, none, 1, letL 16, none, 1, letL 64, none⟩
theorem qdf9 : chkS grG = 0 := by kernel_rfl
theorem vcA9 {s : Nat} (h : s < 64) : grG.row s = grR s 16 := by simp [GS.row, grG, grL, h]
theorem xcZ9 (a b c d e f : Bs) : (lnL [a, b, c, d, e, f]).length = a.length + b.length + c.length + d.length + e.length + f.length + 7 := by
 simp [lnL, Lib.join_cons, Lib.joinTail]; omega
theorem ken9 {s i : Nat} (hs : s < 64) (hi : i < 16) : (eLn grG s i ((grR s 16).getD i (0, 0))).length = 74 := by
 have e : (grR s 16).getD i (0, 0) = ((s : Int), (i : Int)) := by simp [grR, hi]
 rw [e, eLn, if_neg (by simp only; omega), xcZ9];have a := wbK9 hs;have b := wbK9 hi;simp only [grG, Int.toNat_natCast, List.length_cons, List.length_nil];omega
theorem kcA9 {s : Nat} (hs : s < 64) : ∀ k, k ≤ 16 → (rowT grG s k).length = 74 * k
 | 0, _ => rfl
 | k + 1, h => by rw [qad9, l'i, kcA9 hs k (by omega), vcA9 hs, ken9 hs (by omega)]; omega
theorem vbK9 : ∀ s, s ≤ 64 → (vao9 grG s).length = 1184 * s
 | 0, _ => rfl
 | s + 1, h => by
  rw [wP0, l'i, vbK9 s (by omega), vcA9 (by omega), show (grR s 16).length = 16 by simp [grR], kcA9 (by omega) 16 (by omega)]; omega
theorem kdP9 : bigT (qy0 grG) = true := by
 have h := vbK9 64 (l'd _);refine decide_eq_true ?_;unfold qy0;rw [show grG.rows.length = 64 by simp [grG, grL]];simp only [l'i]; omega
theorem qdQ9 : grG.Ok := by
 refine ⟨.inr rfl, .inr rfl, .inr rfl, .inr rfl, by decide, fun j hj => ?_, by decide, by decide, by decide, fun l hl s hs => ?_⟩
 ·have hj : j < 64 := by simpa [grG, grL] using hj
  have := vcA9 hj;unfold GS.row at this;rw [this]; simp [grR]
 ·have h16 : ∀ n, ∀ w ∈ letL n, w.length ≤ 60000 := fun n w hw => by
   obtain ⟨i, _, rfl⟩ := l'Z.1 hw;rw [qaY9]; omega
  simp only [GS.lists, grG, l'w, l'J, or_false] at hl;rcases hl with rfl|rfl|rfl|rfl
  ·rw [n'h.1 hs]; decide
  ·exact h16 _ _ hs
  ·exact h16 _ _ hs
  ·exact h16 _ _ hs
end Go.Proofs
